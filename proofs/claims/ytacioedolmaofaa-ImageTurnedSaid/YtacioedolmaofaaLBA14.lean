/- next: the iterator over the trails that can go on. The reference's Trail. -/
import Derived.Test.YtacioedolmaofaaLBA13
import Derived.Test.YtacioedolmaofaaLBA6
namespace Go.Proofs.Ytacioedolmaofaa
open Go.RowKit Go.Shelf
attribute [local go_sem] Oper.semAt_some
set_option maxHeartbeats 3200000
set_option maxRecDepth 100000
set_option linter.unusedSimpArgs false
set_option linter.unusedVariables false

/-- The blocks that the iterator reads. -/
def NxB (p Bs Bf Bu : Nat) (ta : Option Addr) : Nat → Prop := fun k => k = p ∨ k = Bs ∨ k = Bf ∨ k = Bu ∨ ∃ a, ta = some a ∧ a.block = k
theorem NxB.a {p Bs Bf Bu b o : Nat} {ta : Option Addr} (h : ta = some ⟨b, o, none⟩) : NxB p Bs Bf Bu ta b := .inr (.inr (.inr (.inr ⟨_, h, rfl⟩)))
theorem TrSl.keep {A C : World} {ta : Option Addr} {T : List ITr} {bs : Nat → Prop} (h : TrSl A ta T) (k : KeepCells bs A C) (hb : ∀ a, ta = some a → bs a.block) : TrSl C ta T := by
  intro i hi
  obtain ⟨b, o, ha, hlt, hx⟩ := h i hi
  have hbb : bs b := hb _ ha
  have c0 := k ⟨b, o + i * 3, none⟩ _ hbb hx.c0
  exact ⟨b, o, ha, World.block_lt_of_cell? C _ c0, c0, k ⟨b, o + i * 3 + 1, none⟩ _ hbb hx.c1, k ⟨b, o + i * 3 + 2, none⟩ _ hbb hx.c2⟩

def nextOk (fr : Int) (used : Nat) (t : ITr) : Bool := decide (fr ≤ t.a) && (t.own &&& used == 0)
theorem nextOf_succ (T : List ITr) (fr : Int) (used k : Nat) (hk : k < T.length) : nextOf (T.take (k + 1)) fr used = nextOf (T.take k) fr used ++ if nextOk fr used T[k] then [T[k]] else [] := by
  show (T.take (k + 1)).filter (nextOk fr used) = (T.take k).filter (nextOk fr used) ++ _
  rw [List.take_succ_eq_append_getElem hk, List.filter_append, List.filter_cons, List.filter_nil]
theorem nextOf_split (T : List ITr) (fr : Int) (used k : Nat) (hk : k < T.length) (h : nextOk fr used T[k] = true) : ∃ post, nextOf T fr used = nextOf (T.take k) fr used ++ T[k] :: post := by
  refine ⟨nextOf (T.drop (k + 1)) fr used, ?_⟩
  have e : T = T.take k ++ T[k] :: T.drop (k + 1) := by rw [List.getElem_cons_drop, List.take_append_drop]
  conv => lhs; rw [e]
  show (T.take k ++ T[k] :: T.drop (k + 1)).filter (nextOk fr used) = (T.take k).filter (nextOk fr used) ++ T[k] :: (T.drop (k + 1)).filter (nextOk fr used)
  rw [List.filter_append, List.filter_cons_of_pos h]

theorem inext_made (p : Nat) (fr : Int) (used : Nat) (w : World) : Calls Try.prog 48 #[.pointer (some ⟨p, 0, none⟩), .int .i64 fr, .int .u64 used] w fun e w' =>
    e = .returned (.func (.func 76) #[] #[.pointer (some ⟨w.heap.size, 0, none⟩), .pointer (some ⟨w.heap.size + 1, 0, none⟩), .pointer (some ⟨w.heap.size + 2, 0, none⟩)]) ∧
    w' = ((w.alloc (.cells #[.pointer (some ⟨p, 0, none⟩)] 77)).alloc (.cells #[.int .i64 fr] 3)).alloc (.cells #[.int .u64 used] 88) := by
  go_enter Try.func48, Try.ntmps48
  go_wp2
  go_ret
  refine ⟨?_, rfl⟩
  simp [World.size_alloc]

/-- What lies in memory for the iterator. -/
structure NextAt (W : World) (p Bs Bf Bu : Nat) (fr : Int) (used : Nat) (ta : Option Addr) (tc : Nat) (T : List ITr) : Prop where
  s : W.cell? ⟨Bs, 0, none⟩ = some (.pointer (some ⟨p, 0, none⟩))
  f : W.cell? ⟨Bf, 0, none⟩ = some (.int .i64 fr)
  u : W.cell? ⟨Bu, 0, none⟩ = some (.int .u64 used)
  t : W.cell? ⟨p, 15, none⟩ = some (.slice ta T.length tc)
  l : TrSl W ta T
theorem NextAt.keep {A C : World} {p Bs Bf Bu : Nat} {fr : Int} {used : Nat} {ta : Option Addr} {tc : Nat} {T : List ITr} (h : NextAt A p Bs Bf Bu fr used ta tc T) (k : KeepCells (NxB p Bs Bf Bu ta) A C) : NextAt C p Bs Bf Bu fr used ta tc T :=
  ⟨k ⟨Bs, 0, none⟩ _ (by simp [NxB]) h.s, k ⟨Bf, 0, none⟩ _ (by simp [NxB]) h.f, k ⟨Bu, 0, none⟩ _ (by simp [NxB]) h.u, k ⟨p, 15, none⟩ _ (by simp [NxB]) h.t, h.l.keep k (fun a ha => .inr (.inr (.inr (.inr ⟨a, ha, rfl⟩))))⟩
theorem NextAt.lt {W : World} {p Bs Bf Bu : Nat} {fr : Int} {used : Nat} {ta : Option Addr} {tc : Nat} {T : List ITr} (h : NextAt W p Bs Bf Bu fr used ta tc T) (h0 : T ≠ []) {k : Nat} (hk : NxB p Bs Bf Bu ta k) : k < W.heap.size := by
  rcases hk with rfl | rfl | rfl | rfl | ⟨a, ha, rfl⟩
  · exact World.block_lt_of_cell? W _ h.t
  · exact World.block_lt_of_cell? W _ h.s
  · exact World.block_lt_of_cell? W _ h.f
  · exact World.block_lt_of_cell? W _ h.u
  · obtain ⟨b, o, h1, h2, _⟩ := h.l 0 (List.length_pos_iff.2 h0)
    rw [h1] at ha
    cases ha
    exact h2

theorem inext_seq (p Bs Bf Bu : Nat) (fr : Int) (used : Nat) (ta : Option Addr) (tc : Nat) (T : List ITr) (W : World) (h : NextAt W p Bs Bf Bu fr used ta tc T) (hT : ∀ t ∈ T, ∀ i ∈ [t.a, t.b, t.c], -1 ≤ i ∧ i < 9) (hlen : T.length ≤ 5000) (hu : used < 2 ^ 64) :
    SeqOwn Try.prog 76 #[.pointer (some ⟨Bs, 0, none⟩), .pointer (some ⟨Bf, 0, none⟩), .pointer (some ⟨Bu, 0, none⟩)] (fun _ x vals _ => vals = #[trV x]) (KeepCells (NxB p Bs Bf Bu ta)) (nextOf T fr used) W := by
  intro l J Jx hJ hJx hY h0
  have HT := Lib.hid hT
  have HU := Lib.hid hu
  have hli : (T.length : Int) ≤ 5000 := by omega
  clear hT hu
  refine (callsIn_wide (n := 1)).1 ?_
  refine callsIn_of_wp Try.func76 rfl trivial ?_ rfl
  simp only [Try.ntmps76, List.size_toArray, List.length_cons, List.length_nil, Nat.reduceAdd, Nat.reduceSub, Array.replicate_succ, Array.replicate_zero, List.push_toArray, List.append_toArray, List.nil_append, List.cons_append]
  have c1 := h.s
  have c2 := h.t
  gi_wp2
  gi_loopw [6, 12] (fun _ i wr => ∃ k : Nat, k ≤ T.length ∧ i = .int .i64 k ∧ J (fun _ => False) (nextOf (T.take k) fr used) wr ∧ KeepCells (NxB p Bs Bf Bu ta) W wr) (fun _ i _ => T.length - (intOf i).toNat)
  case atStart => exact ⟨0, Nat.zero_le _, rfl, h0, KeepCells.refl _ _⟩
  case round =>
    obtain ⟨k, hk, rfl, hJo, hKo⟩ := hrel
    by_cases hlt : k < T.length
    · have hki : (k : Int) < T.length := by omega
      have hat := h.keep hKo
      have hapart : ∀ b, NxB p Bs Bf Bu ta b → b < wr.heap.size := fun b hb => hat.lt (fun e => by subst e; cases hlt) hb
      obtain ⟨b, o, rfl, hbl, e0, e1, e2⟩ := hat.l k hlt
      obtain ⟨t, ht⟩ : ∃ t, T[k] = t := ⟨_, rfl⟩
      have hs := nextOf_succ T fr used k hlt
      have hsp := nextOf_split T fr used k hlt
      have htm : t ∈ T := by rw [← ht]; exact List.getElem_mem hlt
      rw [ht] at e0 e1 e2 hs hsp
      have HS := Lib.hid hs
      have HSP := Lib.hid hsp
      clear hs hsp ht
      gi_wp2
      have hq := obj_new wr (.cells #[.int .i64 t.a, .int .i64 t.b, .int .i64 t.c] 32)
      have hba := below_alloc wr (.cells #[.int .i64 t.a, .int .i64 t.b, .int .i64 t.c] 32)
      have hsa := Steps.alloc (fun _ => False) wr (.cells #[.int .i64 t.a, .int .i64 t.b, .int .i64 t.c] 32)
      have hza : (wr.alloc (.cells #[.int .i64 t.a, .int .i64 t.b, .int .i64 t.c] 32)).heap.size = wr.heap.size + 1 := by simp
      obtain ⟨q, hqe⟩ : ∃ q, wr.heap.size = q := ⟨_, rfl⟩
      generalize wr.alloc (.cells #[.int .i64 t.a, .int .i64 t.b, .int .i64 t.c] 32) = wq at hq hba hsa hza ⊢
      rw [hqe] at hq hza hapart
      try rw [hqe]
      have HQ := Lib.hid hqe
      have hJq : J (fun k => k = q) (nextOf (T.take k) fr used) wq := hJ _ _ _ _ _ hJo hsa (fun k hk => .inr (by have := HQ.out; omega))
      have hKq : KeepCells (NxB p Bs Bf Bu (some ⟨b, o, none⟩)) W wq := hKo.trans (KeepCells.of_steps hsa (fun _ _ h => h))
      have hatq := hat.keep (KeepCells.of_steps hsa (fun _ _ h => h))
      have hql := (Array.getElem?_eq_some_iff.1 hq).1
      have q0 : ∀ W', KeepCells (fun k => NxB p Bs Bf Bu (some ⟨b, o, none⟩) k ∨ k = q) wq W' → W'.cell? ⟨q, 0, none⟩ = some (.int .i64 t.a) := fun W' h => h ⟨q, 0, none⟩ _ (.inr rfl) (cell_block hq 0)
      have q1 : ∀ W', KeepCells (fun k => NxB p Bs Bf Bu (some ⟨b, o, none⟩) k ∨ k = q) wq W' → W'.cell? ⟨q, 1, none⟩ = some (.int .i64 t.b) := fun W' h => h ⟨q, 1, none⟩ _ (.inr rfl) (cell_block hq 1)
      have q2 : ∀ W', KeepCells (fun k => NxB p Bs Bf Bu (some ⟨b, o, none⟩) k ∨ k = q) wq W' → W'.cell? ⟨q, 2, none⟩ = some (.int .i64 t.c) := fun W' h => h ⟨q, 2, none⟩ _ (.inr rfl) (cell_block hq 2)
      have kf : ∀ W', KeepCells (fun k => NxB p Bs Bf Bu (some ⟨b, o, none⟩) k ∨ k = q) wq W' → W'.cell? ⟨Bf, 0, none⟩ = some (.int .i64 fr) := fun W' h => h ⟨Bf, 0, none⟩ _ (.inl (by simp [NxB])) hatq.f
      have ku : ∀ W', KeepCells (fun k => NxB p Bs Bf Bu (some ⟨b, o, none⟩) k ∨ k = q) wq W' → W'.cell? ⟨Bu, 0, none⟩ = some (.int .u64 used) := fun W' h => h ⟨Bu, 0, none⟩ _ (.inl (by simp [NxB])) hatq.u
      have htb := HT.out t htm
      have hown : t.own < 512 := by
        unfold ITr.own
        exact or_lt (n := 9) (or_lt (n := 9) (bit1_lt _ (htb _ (by simp)).1 (htb _ (by simp)).2) (bit1_lt _ (htb _ (by simp)).1 (htb _ (by simp)).2)) (bit1_lt _ (htb _ (by simp)).1 (htb _ (by simp)).2)
      have hand := and_u64 t.own used (by omega) HU.out
      have him := iimages_any t wq.drew htb
      clear e0 e1 e2 hat hbl c1 c2
      by_cases hge : fr ≤ t.a
      · by_cases hz : t.own &&& used = 0
        · have hno : nextOk fr used t = true := by simp [nextOk, hge, hz]
          rw [hz] at hand
          refine wpIn_region_W (S := fun W' => KeepCells (fun k => NxB p Bs Bf Bu (some ⟨b, o, none⟩) k ∨ k = q) wq W') 17 (by kernel_rfl) (by kernel_rfl) (fun _ _ _ h => h) (fun hHeld => ?_)
          refine wTk 0 16 ?_ ?_ ?_
          rotate_left
          · intro o h w k; (try dsimp only at k); simp only [gA, gB, gC, gG] at h; subst h; go_simp; try with_reducible rfl
          simp only [Act.put, gD, gE, gF]
          refine wTk 1 17 ?_ ?_ ?_
          rotate_left
          · intro o h w k; (try dsimp only at k); simp only [gA, gB, gC, gG] at h; subst h; go_simp; try with_reducible rfl
          simp only [Act.put, gD, gE, gF]
          refine wTk 2 18 ?_ ?_ ?_
          rotate_left
          · intro o h w k; (try dsimp only at k); simp only [gA, gB, gC, gG] at h; subst h; go_simp; try with_reducible rfl
          simp only [Act.put, gD, gE, gF]
          refine wTk 3 19 ?_ ?_ ?_
          rotate_left
          · intro o h w k; (try dsimp only at k); simp only [gA, gB, gC, gG] at h; subst h; go_simp; try with_reducible rfl
          simp only [Act.put, gD, gE, gF]
          refine wTk 4 20 ?_ ?_ ?_
          rotate_left
          · intro o h w k; (try dsimp only at k); simp only [gA, gB, gC, gG] at h; subst h; go_simp; try with_reducible rfl
          simp only [Act.put, gD, gE, gF]
          refine wTk 5 21 ?_ ?_ ?_
          rotate_left
          · intro o h w k; (try dsimp only at k); simp only [gA, gB, gC, gG] at h; subst h; go_simp; try with_reducible rfl
          simp only [Act.put, gD, gE, gF]
          refine wTk 7 23 ?_ ?_ ?_
          rotate_left
          · intro o h w k; (try dsimp only at k); simp only [gA, gB, gC, gG] at h; subst h; go_simp; try with_reducible rfl
          simp only [Act.put, gD, gE, gF]
          refine wpAnyW_one 6 (by kernel_rfl) (by kernel_rfl) ?_
          intro o ho K hK
          simp only [gA, gB, gC, gG] at ho
          subst ho
          go_simp
          refine ⟨trivial, CallsIn.mono (callsIn_wide.2 him) ?_⟩
          rintro e w1 ⟨rfl, hb1⟩
          have hst1 : Steps (fun _ => False) wq w1 := ⟨hb1.os, hb1.tape, hb1.output, hb1.size, fun k hk _ => hb1.block k hk⟩
          have hk1 : KeepCells (fun k => NxB p Bs Bf Bu (some ⟨b, o, none⟩) k ∨ k = q) wq w1 := KeepCells.of_steps hst1 (fun _ _ h => h)
          refine hK _ _ hk1 (fun _ => ?_)
          clear hK K
          try simp only [Act.put, gD, gE, gF]
          have hJ1 : J (fun k => k = q) (nextOf (T.take k) fr used) w1 := hJ _ _ _ _ _ hJq (hst1.mono (fun _ _ h => h.elim)) (fun k h => .inl h)
          have hK1 := hKq.trans (KeepCells.of_steps hst1 (fun _ _ h => h))
          obtain ⟨fn, tmps, assign, body, hy, hR⟩ := hY (fun k => k = q) _ t _ w1 (HSP.out hno) hJ1 rfl
          unfold trV at hy
          refine wTk 8 24 ?_ ?_ ?_
          rotate_left
          · intro o h w k; (try dsimp only at k); simp only [gA, gB, gC, gG] at h; subst h; go_simp; try with_reducible rfl
          simp only [Act.put, gD, gE, gF]
          refine wTk 9 25 ?_ ?_ ?_
          rotate_left
          · intro o h w k; (try dsimp only at k); simp only [gA, gB, gC, gG] at h; subst h; go_simp; try with_reducible rfl
          simp only [Act.put, gD, gE, gF]
          refine wTk 10 26 ?_ ?_ ?_
          rotate_left
          · intro o h w k; (try dsimp only at k); simp only [gA, gB, gC, gG] at h; subst h; go_simp; try with_reducible rfl
          simp only [Act.put, gD, gE, gF]
          refine wTk 11 27 ?_ ?_ ?_
          rotate_left
          · intro o h w k; (try dsimp only at k); simp only [gA, gB, gC, gG] at h; subst h; go_simp; try with_reducible rfl
          simp only [Act.put, gD, gE, gF]
          refine wTk 12 28 ?_ ?_ ?_
          rotate_left
          · intro o h w k; (try dsimp only at k); simp only [gA, gB, gC, gG] at h; subst h; go_simp; try with_reducible rfl
          simp only [Act.put, gD, gE, gF]
          refine wTk 13 29 ?_ ?_ ?_
          rotate_left
          · intro o h w k; (try dsimp only at k); simp only [gA, gB, gC, gG] at h; subst h; go_simp; try with_reducible rfl
          simp only [Act.put, gD, gE, gF]
          refine wpAnyW_one 14 (by kernel_rfl) (by kernel_rfl) ?_
          intro o ho K hK
          simp only [gA, gB, gC, gG] at ho
          subst ho
          go_simp
          refine hR.mono ?_
          rintro e W3 ⟨hk3, hz3, ho3, (⟨rfl, hJ3⟩ | ⟨rfl, hJx3⟩)⟩
          all_goals
            have hk13 : KeepCells (fun k => NxB p Bs Bf Bu (some ⟨b, o, none⟩) k ∨ k = q) w1 W3 := fun a v ha hv => by
              rcases ha with ha | ha
              · exact hk3 a v ha hv
              · rw [World.cell?_of_block (w := w1) (ho3 _ ha)]; exact hv
            refine hK _ _ (hk1.trans hk13) (fun _ => ?_)
            clear hK K
            try simp only [Act.put, gD, gE, gF]
            refine wTk 15 31 ?_ ?_ ?_
            rotate_left
            · intro o h w k; (try dsimp only at k); simp only [gA, gB, gC, gG] at h; subst h; go_simp; try with_reducible rfl
            simp only [Act.put, gD, gE, gF]
            refine wTk 16 32 ?_ ?_ ?_
            rotate_left
            · intro o h w k; (try dsimp only at k); simp only [gA, gB, gC, gG] at h; subst h; go_simp; try with_reducible rfl
            simp only [Act.put, gD, gE, gF]
            refine wpAnyW_done (by kernel_rfl) ?_ _
          ·
            have J1 : J (fun _ => False) (nextOf (T.take k) fr used ++ [t]) W3 := hJ _ _ _ _ _ hJ3 (Steps.refl (fun _ => False) W3 |>.mono (fun _ _ h => h.elim)) (fun k h => h.elim)
            have K1 := hK1.trans hk3
            gi_wp2
            go_roundw
            case rel => exact ⟨k + 1, by omega, by go_num, by rw [HS.out, hno]; simpa using J1, K1⟩
            case measure => simp [intOf]; omega
          ·
            gi_wp2
            refine bodyPost_ret (results_none rfl _ _ _) rfl ?_
            obtain ⟨post, hpost⟩ := HSP.out hno
            exact ⟨⟨_, rfl⟩, .inr ⟨_, _, ⟨post, by rw [hpost]; simp⟩, hJx3⟩⟩
        · have hno : nextOk fr used t = false := by simp [nextOk, hz]
          have hzi : ¬ ((t.own &&& used : Nat) : Int) = 0 := by omega
          have hzb : (((t.own &&& used : Nat) : Int) == 0) = false := by simpa using hz
          refine wpIn_region_W (S := fun W' => KeepCells (fun k => NxB p Bs Bf Bu (some ⟨b, o, none⟩) k ∨ k = q) wq W') 17 (by kernel_rfl) (by kernel_rfl) (fun _ _ _ h => h) (fun hHeld => ?_)
          refine wTk 0 16 ?_ ?_ ?_
          rotate_left
          · intro o h w k; (try dsimp only at k); simp only [gA, gB, gC, gG] at h; subst h; go_simp; try with_reducible rfl
          simp only [Act.put, gD, gE, gF]
          refine wTk 1 17 ?_ ?_ ?_
          rotate_left
          · intro o h w k; (try dsimp only at k); simp only [gA, gB, gC, gG] at h; subst h; go_simp; try with_reducible rfl
          simp only [Act.put, gD, gE, gF]
          refine wTk 2 18 ?_ ?_ ?_
          rotate_left
          · intro o h w k; (try dsimp only at k); simp only [gA, gB, gC, gG] at h; subst h; go_simp; try with_reducible rfl
          simp only [Act.put, gD, gE, gF]
          refine wTk 3 19 ?_ ?_ ?_
          rotate_left
          · intro o h w k; (try dsimp only at k); simp only [gA, gB, gC, gG] at h; subst h; go_simp; try with_reducible rfl
          simp only [Act.put, gD, gE, gF]
          refine wTk 4 20 ?_ ?_ ?_
          rotate_left
          · intro o h w k; (try dsimp only at k); simp only [gA, gB, gC, gG] at h; subst h; go_simp; try with_reducible rfl
          simp only [Act.put, gD, gE, gF]
          refine wTk 5 21 ?_ ?_ ?_
          rotate_left
          · intro o h w k; (try dsimp only at k); simp only [gA, gB, gC, gG] at h; subst h; go_simp; try with_reducible rfl
          simp only [Act.put, gD, gE, gF]
          refine wTk 7 23 ?_ ?_ ?_
          rotate_left
          · intro o h w k; (try dsimp only at k); simp only [gA, gB, gC, gG] at h; subst h; go_simp; try with_reducible rfl
          simp only [Act.put, gD, gE, gF]
          refine wpAnyW_one 6 (by kernel_rfl) (by kernel_rfl) ?_
          intro o ho K hK
          simp only [gA, gB, gC, gG] at ho
          subst ho
          go_simp
          refine ⟨trivial, CallsIn.mono (callsIn_wide.2 him) ?_⟩
          rintro e w1 ⟨rfl, hb1⟩
          have hst1 : Steps (fun _ => False) wq w1 := ⟨hb1.os, hb1.tape, hb1.output, hb1.size, fun k hk _ => hb1.block k hk⟩
          have hk1 : KeepCells (fun k => NxB p Bs Bf Bu (some ⟨b, o, none⟩) k ∨ k = q) wq w1 := KeepCells.of_steps hst1 (fun _ _ h => h)
          refine hK _ _ hk1 (fun _ => ?_)
          clear hK K
          try simp only [Act.put, gD, gE, gF]
          have J1 : J (fun _ => False) (nextOf (T.take k) fr used) w1 := hJ _ _ _ _ _ hJq (hst1.mono (fun _ _ h => h.elim)) (fun k h => h.elim)
          have K1 := hKq.trans (KeepCells.of_steps hst1 (fun _ _ h => h))
          refine wTk 8 24 ?_ ?_ ?_
          rotate_left
          · intro o h w k; (try dsimp only at k); simp only [gA, gB, gC, gG] at h; subst h; go_simp; try with_reducible rfl
          simp only [Act.put, gD, gE, gF]
          refine wTk 9 25 ?_ ?_ ?_
          rotate_left
          · intro o h w k; (try dsimp only at k); simp only [gA, gB, gC, gG] at h; subst h; go_simp; try with_reducible rfl
          simp only [Act.put, gD, gE, gF]
          refine wTk 10 26 ?_ ?_ ?_
          rotate_left
          · intro o h w k; (try dsimp only at k); simp only [gA, gB, gC, gG] at h; subst h; go_simp; try with_reducible rfl
          simp only [Act.put, gD, gE, gF]
          refine wTk 11 27 ?_ ?_ ?_
          rotate_left
          · intro o h w k; (try dsimp only at k); simp only [gA, gB, gC, gG] at h; subst h; go_simp; try with_reducible rfl
          simp only [Act.put, gD, gE, gF]
          refine wpAnyW_skipD 12 28 (by kernel_rfl) (by kernel_rfl) (by kernel_rfl) (by kernel_rfl) (fun _ _ _ h => h) (by assumption) ?_
          simp only [Act.put, gD, gE, gF]
          refine wpAnyW_skipD 13 29 (by kernel_rfl) (by kernel_rfl) (by kernel_rfl) (by kernel_rfl) (fun _ _ _ h => h) (by assumption) ?_
          simp only [Act.put, gD, gE, gF]
          refine wpAnyW_skipD 14 30 (by kernel_rfl) (by kernel_rfl) (by kernel_rfl) (by kernel_rfl) (fun _ _ _ h => h) (by assumption) ?_
          simp only [Act.put, gD, gE, gF]
          refine wpAnyW_skipD 15 31 (by kernel_rfl) (by kernel_rfl) (by kernel_rfl) (by kernel_rfl) (fun _ _ _ h => h) (by assumption) ?_
          simp only [Act.put, gD, gE, gF]
          refine wTk 16 32 ?_ ?_ ?_
          rotate_left
          · intro o h w k; (try dsimp only at k); simp only [gA, gB, gC, gG] at h; subst h; go_simp; try with_reducible rfl
          simp only [Act.put, gD, gE, gF]
          refine wpAnyW_done (by kernel_rfl) ?_ _
          gi_wp2
          go_roundw
          case rel => exact ⟨k + 1, by omega, by go_num, by rw [HS.out, hno]; simpa using J1, K1⟩
          case measure => simp [intOf]; omega
      · have hno : nextOk fr used t = false := by simp [nextOk, hge]
        have hgb : decide (fr ≤ t.a) = false := by simp [hge]
        have hst1 := (Steps.refl (fun k => k = q) wq).drew
        have J1 : J (fun _ => False) (nextOf (T.take k) fr used) wq.drew := hJ _ _ _ _ _ hJq hst1 (fun k h => h.elim)
        have K1 := hKq.trans (fun a v _ h => h : KeepCells (NxB p Bs Bf Bu (some ⟨b, o, none⟩)) wq wq.drew)
        refine wpIn_region_W (S := fun W' => KeepCells (fun k => NxB p Bs Bf Bu (some ⟨b, o, none⟩) k ∨ k = q) wq W') 17 (by kernel_rfl) (by kernel_rfl) (fun _ _ _ h => h) (fun hHeld => ?_)
        refine wTk 0 16 ?_ ?_ ?_
        rotate_left
        · intro o h w k; (try dsimp only at k); simp only [gA, gB, gC, gG] at h; subst h; go_simp; try with_reducible rfl
        simp only [Act.put, gD, gE, gF]
        refine wTk 1 17 ?_ ?_ ?_
        rotate_left
        · intro o h w k; (try dsimp only at k); simp only [gA, gB, gC, gG] at h; subst h; go_simp; try with_reducible rfl
        simp only [Act.put, gD, gE, gF]
        refine wTk 2 18 ?_ ?_ ?_
        rotate_left
        · intro o h w k; (try dsimp only at k); simp only [gA, gB, gC, gG] at h; subst h; go_simp; try with_reducible rfl
        simp only [Act.put, gD, gE, gF]
        refine wTk 3 19 ?_ ?_ ?_
        rotate_left
        · intro o h w k; (try dsimp only at k); simp only [gA, gB, gC, gG] at h; subst h; go_simp; try with_reducible rfl
        simp only [Act.put, gD, gE, gF]
        refine wTk 4 20 ?_ ?_ ?_
        rotate_left
        · intro o h w k; (try dsimp only at k); simp only [gA, gB, gC, gG] at h; subst h; go_simp; try with_reducible rfl
        simp only [Act.put, gD, gE, gF]
        refine wpAnyW_skipD 5 21 (by kernel_rfl) (by kernel_rfl) (by kernel_rfl) (by kernel_rfl) (fun _ _ _ h => h) (by assumption) ?_
        simp only [Act.put, gD, gE, gF]
        refine wpAnyW_skipD 6 22 (by kernel_rfl) (by kernel_rfl) (by kernel_rfl) (by kernel_rfl) (fun _ _ _ h => h) (by assumption) ?_
        simp only [Act.put, gD, gE, gF]
        refine wpAnyW_skipD 7 23 (by kernel_rfl) (by kernel_rfl) (by kernel_rfl) (by kernel_rfl) (fun _ _ _ h => h) (by assumption) ?_
        simp only [Act.put, gD, gE, gF]
        refine wpAnyW_skipD 8 24 (by kernel_rfl) (by kernel_rfl) (by kernel_rfl) (by kernel_rfl) (fun _ _ _ h => h) (by assumption) ?_
        simp only [Act.put, gD, gE, gF]
        refine wpAnyW_skipD 9 25 (by kernel_rfl) (by kernel_rfl) (by kernel_rfl) (by kernel_rfl) (fun _ _ _ h => h) (by assumption) ?_
        simp only [Act.put, gD, gE, gF]
        refine wTk 10 26 ?_ ?_ ?_
        rotate_left
        · intro o h w k; (try dsimp only at k); simp only [gA, gB, gC, gG] at h; subst h; go_simp; try with_reducible rfl
        simp only [Act.put, gD, gE, gF]
        refine wTk 11 27 ?_ ?_ ?_
        rotate_left
        · intro o h w k; (try dsimp only at k); simp only [gA, gB, gC, gG] at h; subst h; go_simp; try with_reducible rfl
        simp only [Act.put, gD, gE, gF]
        refine wpAnyW_skipD 12 28 (by kernel_rfl) (by kernel_rfl) (by kernel_rfl) (by kernel_rfl) (fun _ _ _ h => h) (by assumption) ?_
        simp only [Act.put, gD, gE, gF]
        refine wpAnyW_skipD 13 29 (by kernel_rfl) (by kernel_rfl) (by kernel_rfl) (by kernel_rfl) (fun _ _ _ h => h) (by assumption) ?_
        simp only [Act.put, gD, gE, gF]
        refine wpAnyW_skipD 14 30 (by kernel_rfl) (by kernel_rfl) (by kernel_rfl) (by kernel_rfl) (fun _ _ _ h => h) (by assumption) ?_
        simp only [Act.put, gD, gE, gF]
        refine wpAnyW_skipD 15 31 (by kernel_rfl) (by kernel_rfl) (by kernel_rfl) (by kernel_rfl) (fun _ _ _ h => h) (by assumption) ?_
        simp only [Act.put, gD, gE, gF]
        refine wTk 16 32 ?_ ?_ ?_
        rotate_left
        · intro o h w k; (try dsimp only at k); simp only [gA, gB, gC, gG] at h; subst h; go_simp; try with_reducible rfl
        simp only [Act.put, gD, gE, gF]
        refine wpAnyW_done (by kernel_rfl) ?_ _
        gi_wp2
        go_roundw
        case rel => exact ⟨k + 1, by omega, by go_num, by rw [HS.out, hno]; simpa using J1, K1⟩
        case measure => simp [intOf]; omega
    · obtain rfl : k = T.length := by omega
      gi_wp2
      go_end0
      exact ⟨⟨_, rfl⟩, .inl ⟨_, by rw [List.take_length] at hJo; exact hJo⟩⟩
end Go.Proofs.Ytacioedolmaofaa
namespace Go.Proofs.Ytacioedolmaofaa
open Go.RowKit Go.Shelf
set_option maxHeartbeats 6400000
set_option maxRecDepth 100000
set_option linter.unusedSimpArgs false
set_option linter.unusedVariables false

theorem icell_apart {w w' : World} {own : Nat → Prop} (hs : Steps own w w') {a : Addr} {v : Value} (hn : ¬ own a.block) (h : w.cell? a = some v) : w'.cell? a = some v := by
  rw [World.cell?_of_block (w := w) (hs.block a.block (World.block_lt_of_cell? w a h) hn)]
  exact h
/-- Is an entry no image's number, though one must be there? -/
def badAt (t : ITr) (n : Nat) (e : Nat) : Bool := !isIm (t.at' e) n && (decide (e = 0) || !decide (t.at' e = -1))
theorem isIm_eq (i : Int) (n : Nat) : (decide (0 ≤ i) && decide (i ≤ (n : Int) - 1)) = isIm i n := by
  unfold isIm
  congr 1
  exact decide_eq_decide.2 (by omega)

theorem trail_reg4_0 (z q n : Nat) (fa : Option Addr) (fc : Nat) (t : ITr) (W : World) {z0 z1 z4 z6 z7 z8 z9 z10 z30 z31 z32 z33 z34 z35 z36 z37 z38 z39 z40 z41 z42 z43 z44 z45 z46 z47 : Value} {z11 z12 z13 z14 z15 z16 z17 z18 z19 z20 z21 z22 z23 z24 z25 z26 z27 z28 z29 : Value} (hx : W.cell? ⟨z, 14, none⟩ = some (.slice fa n fc)) (hn : n < 9223372036854775807) (hq : W.cell? ⟨q, 0, none⟩ = some (.int .i64 t.a)) (K : Act → World → Prop) (Q : Exit → Act → World → Prop)
    (hfin : ∀ (s11 s12 s13 s14 s15 s16 s17 s18 s19 s20 s21 s22 s23 s24 s25 s26 s27 s28 : Value) (w' : World), Steps (fun _ => False) W w' → K ⟨(z0::z1::(.pointer (some ⟨z, 0, none⟩))::(.pointer (some ⟨q, 0, none⟩))::z4::(.int .i64 0)::z6::z7::z8::z9::z10::s11::s12::s13::s14::s15::s16::s17::s18::s19::s20::s21::s22::s23::s24::s25::s26::s27::s28::(.bool (badAt t n 0))::z30::z31::z32::z33::z34::z35::z36::z37::z38::z39::z40::z41::z42::z43::z44::z45::z46::z47 :: []).toArray, []⟩ w') :
    Code.wp Try.prog ((Try.f43.body.bind (findReg 4)).getD .skip) (Exit.then K Q) ⟨(z0::z1::(.pointer (some ⟨z, 0, none⟩))::(.pointer (some ⟨q, 0, none⟩))::z4::(.int .i64 0)::z6::z7::z8::z9::z10::z11::z12::z13::z14::z15::z16::z17::z18::z19::z20::z21::z22::z23::z24::z25::z26::z27::z28::z29::z30::z31::z32::z33::z34::z35::z36::z37::z38::z39::z40::z41::z42::z43::z44::z45::z46::z47 :: []).toArray, []⟩ W := by
  have HFIN := Lib.hid hfin
  have hni : (n : Int) < 9223372036854775807 := by omega
  have HWR : Hid (IntKind.i64.wrap ((n : Int) - 1) = (n : Int) - 1) := Lib.hid (by rw [IntKind.wrap_i64]; omega)
  have k14 : ∀ W', Steps (fun _ => False) W W' → W'.cell? ⟨z, 14, none⟩ = some (.slice fa n fc) := fun W' h => icell_apart h (fun h => h) hx
  have kq : ∀ W', Steps (fun _ => False) W W' → W'.cell? ⟨q, 0, none⟩ = some (.int .i64 t.a) := fun W' h => icell_apart h (fun h => h) hq
  obtain ⟨p, hp⟩ : ∃ p, isIm t.a n = p := ⟨_, rfl⟩
  have HP := Lib.hid hp
  have hbad : badAt t n 0 = (!p && (true || !decide (t.a = -1))) := by rw [← hp]; rfl
  have HBAD := Lib.hid hbad
  clear hfin hx hq hp hbad
  conv => arg 2; whnf
  refine (wpIn_wide (n := 0)).1 ?_
  refine wpIn_region_Wn (S := fun W' => Steps (fun _ => False) W W') 19 (by kernel_rfl) (by kernel_rfl) (Steps.refl _ W).drew (fun H0 => ?_)
  generalize W.drew = w0 at H0 ⊢
  refine wTk 0 11 ?_ ?_ ?_
  rotate_left
  · intro o h w k; (try dsimp only at k); simp only [gA, gB, gC, gG] at h; subst h; go_simp; try with_reducible rfl
  simp only [Act.put, gD, gE, gF]
  refine wTk 1 12 ?_ ?_ ?_
  rotate_left
  · intro o h w k; (try dsimp only at k); simp only [gA, gB, gC, gG] at h; subst h; go_simp; try with_reducible rfl
  simp only [Act.put, gD, gE, gF]
  refine wTk 2 13 ?_ ?_ ?_
  rotate_left
  · intro o h w k; (try dsimp only at k); simp only [gA, gB, gC, gG] at h; subst h; go_simp; try with_reducible rfl
  simp only [Act.put, gD, gE, gF]
  refine wTk 3 14 ?_ ?_ ?_
  rotate_left
  · intro o h w k; (try dsimp only at k); simp only [gA, gB, gC, gG] at h; subst h; go_simp; try with_reducible rfl
  simp only [Act.put, gD, gE, gF]
  refine wTk 4 15 ?_ ?_ ?_
  rotate_left
  · intro o h w k; (try dsimp only at k); simp only [gA, gB, gC, gG] at h; subst h; go_simp; try with_reducible rfl
  simp only [Act.put, gD, gE, gF]
  refine wTk 5 16 ?_ ?_ ?_
  rotate_left
  · intro o h w k; (try dsimp only at k); simp only [gA, gB, gC, gG] at h; subst h; go_simp; try with_reducible rfl
  simp only [Act.put, gD, gE, gF]
  refine wTk 6 17 ?_ ?_ ?_
  rotate_left
  · intro o h w k; (try dsimp only at k); simp only [gA, gB, gC, gG] at h; subst h; go_simp; try with_reducible rfl
  simp only [Act.put, gD, gE, gF]
  refine wpAnyW_one 7 (by kernel_rfl) (by kernel_rfl) ?_
  intro o ho K hK
  simp only [gA, gB, gC, gG] at ho
  subst ho
  go_simp
  rw [HWR.out]
  refine ⟨trivial, rfl, CallsIn.mono (callsIn_wide.2 (irin_any t.a 0 ((n : Int) - 1) w0)) ?_⟩
  rintro e w1 ⟨rfl, hww⟩
  rw [← hww, isIm_eq, HP.out]
  clear hww w1
  refine hK _ _ H0 (fun _ => ?_)
  clear hK K
  try simp only [Act.put, gD, gE, gF]
  cases p
  ·
    refine wTk 8 19 ?_ ?_ ?_
    rotate_left
    · intro o h w k; (try dsimp only at k); simp only [gA, gB, gC, gG] at h; subst h; go_simp; try with_reducible rfl
    simp only [Act.put, gD, gE, gF]
    refine wTk 9 20 ?_ ?_ ?_
    rotate_left
    · intro o h w k; (try dsimp only at k); simp only [gA, gB, gC, gG] at h; subst h; go_simp; try with_reducible rfl
    simp only [Act.put, gD, gE, gF]
    refine wTk 10 21 ?_ ?_ ?_
    rotate_left
    · intro o h w k; (try dsimp only at k); simp only [gA, gB, gC, gG] at h; subst h; go_simp; try with_reducible rfl
    simp only [Act.put, gD, gE, gF]
    refine wTk 11 22 ?_ ?_ ?_
    rotate_left
    · intro o h w k; (try dsimp only at k); simp only [gA, gB, gC, gG] at h; subst h; go_simp; try with_reducible rfl
    simp only [Act.put, gD, gE, gF]
    refine wTk 12 23 ?_ ?_ ?_
    rotate_left
    · intro o h w k; (try dsimp only at k); simp only [gA, gB, gC, gG] at h; subst h; go_simp; try with_reducible rfl
    simp only [Act.put, gD, gE, gF]
    refine wpAnyW_skipD 13 24 (by kernel_rfl) (by kernel_rfl) (by kernel_rfl) (by kernel_rfl) (fun _ _ _ h => h) (by assumption) ?_
    simp only [Act.put, gD, gE, gF]
    refine wpAnyW_skipD 14 25 (by kernel_rfl) (by kernel_rfl) (by kernel_rfl) (by kernel_rfl) (fun _ _ _ h => h) (by assumption) ?_
    simp only [Act.put, gD, gE, gF]
    refine wpAnyW_skipD 15 26 (by kernel_rfl) (by kernel_rfl) (by kernel_rfl) (by kernel_rfl) (fun _ _ _ h => h) (by assumption) ?_
    simp only [Act.put, gD, gE, gF]
    refine wpAnyW_skipD 16 27 (by kernel_rfl) (by kernel_rfl) (by kernel_rfl) (by kernel_rfl) (fun _ _ _ h => h) (by assumption) ?_
    simp only [Act.put, gD, gE, gF]
    refine wTk 17 28 ?_ ?_ ?_
    rotate_left
    · intro o h w k; (try dsimp only at k); simp only [gA, gB, gC, gG] at h; subst h; go_simp; try with_reducible rfl
    simp only [Act.put, gD, gE, gF]
    refine wTk 18 29 ?_ ?_ ?_
    rotate_left
    · intro o h w k; (try dsimp only at k); simp only [gA, gB, gC, gG] at h; subst h; go_simp; try with_reducible rfl
    simp only [Act.put, gD, gE, gF]
    refine wpAnyW_done (by kernel_rfl) ?_ _
    dsimp only [onNormal]
    have hv : badAt t n 0 = true := by rw [HBAD.out]; rfl
    have hf := HFIN.out
    rw [hv] at hf
    exact hf _ _ _ _ _ _ _ _ _ _ _ _ _ _ _ _ _ _ _ H0
  ·
    have hbv : badAt t n 0 = false := by rw [HBAD.out]; rfl
    refine wTk 8 19 ?_ ?_ ?_
    rotate_left
    · intro o h w k; (try dsimp only at k); simp only [gA, gB, gC, gG] at h; subst h; go_simp; try with_reducible rfl
    simp only [Act.put, gD, gE, gF]
    refine wTk 9 20 ?_ ?_ ?_
    rotate_left
    · intro o h w k; (try dsimp only at k); simp only [gA, gB, gC, gG] at h; subst h; go_simp; try with_reducible rfl
    simp only [Act.put, gD, gE, gF]
    refine wpAnyW_skipD 10 21 (by kernel_rfl) (by kernel_rfl) (by kernel_rfl) (by kernel_rfl) (fun _ _ _ h => h) (by assumption) ?_
    simp only [Act.put, gD, gE, gF]
    refine wpAnyW_skipD 11 22 (by kernel_rfl) (by kernel_rfl) (by kernel_rfl) (by kernel_rfl) (fun _ _ _ h => h) (by assumption) ?_
    simp only [Act.put, gD, gE, gF]
    refine wpAnyW_skipD 12 23 (by kernel_rfl) (by kernel_rfl) (by kernel_rfl) (by kernel_rfl) (fun _ _ _ h => h) (by assumption) ?_
    simp only [Act.put, gD, gE, gF]
    refine wpAnyW_skipD 13 24 (by kernel_rfl) (by kernel_rfl) (by kernel_rfl) (by kernel_rfl) (fun _ _ _ h => h) (by assumption) ?_
    simp only [Act.put, gD, gE, gF]
    refine wpAnyW_skipD 14 25 (by kernel_rfl) (by kernel_rfl) (by kernel_rfl) (by kernel_rfl) (fun _ _ _ h => h) (by assumption) ?_
    simp only [Act.put, gD, gE, gF]
    refine wpAnyW_skipD 15 26 (by kernel_rfl) (by kernel_rfl) (by kernel_rfl) (by kernel_rfl) (fun _ _ _ h => h) (by assumption) ?_
    simp only [Act.put, gD, gE, gF]
    refine wpAnyW_skipD 16 27 (by kernel_rfl) (by kernel_rfl) (by kernel_rfl) (by kernel_rfl) (fun _ _ _ h => h) (by assumption) ?_
    simp only [Act.put, gD, gE, gF]
    refine wpAnyW_skipD 17 28 (by kernel_rfl) (by kernel_rfl) (by kernel_rfl) (by kernel_rfl) (fun _ _ _ h => h) (by assumption) ?_
    simp only [Act.put, gD, gE, gF]
    refine wTk 18 29 ?_ ?_ ?_
    rotate_left
    · intro o h w k; (try dsimp only at k); simp only [gA, gB, gC, gG] at h; subst h; go_simp; try with_reducible rfl
    simp only [Act.put, gD, gE, gF]
    refine wpAnyW_done (by kernel_rfl) ?_ _
    dsimp only [onNormal]
    have hf := HFIN.out
    rw [hbv] at hf
    exact hf _ _ _ _ _ _ _ _ _ _ _ _ _ _ _ _ _ _ _ H0

theorem trail_reg4_1 (z q n : Nat) (fa : Option Addr) (fc : Nat) (t : ITr) (W : World) {z0 z1 z4 z6 z7 z8 z9 z10 z30 z31 z32 z33 z34 z35 z36 z37 z38 z39 z40 z41 z42 z43 z44 z45 z46 z47 : Value} {z11 z12 z13 z14 z15 z16 z17 z18 z19 z20 z21 z22 z23 z24 z25 z26 z27 z28 z29 : Value} (hx : W.cell? ⟨z, 14, none⟩ = some (.slice fa n fc)) (hn : n < 9223372036854775807) (hq : W.cell? ⟨q, 1, none⟩ = some (.int .i64 t.b)) (K : Act → World → Prop) (Q : Exit → Act → World → Prop)
    (hfin : ∀ (s11 s12 s13 s14 s15 s16 s17 s18 s19 s20 s21 s22 s23 s24 s25 s26 s27 s28 : Value) (w' : World), Steps (fun _ => False) W w' → K ⟨(z0::z1::(.pointer (some ⟨z, 0, none⟩))::(.pointer (some ⟨q, 0, none⟩))::z4::(.int .i64 1)::z6::z7::z8::z9::z10::s11::s12::s13::s14::s15::s16::s17::s18::s19::s20::s21::s22::s23::s24::s25::s26::s27::s28::(.bool (badAt t n 1))::z30::z31::z32::z33::z34::z35::z36::z37::z38::z39::z40::z41::z42::z43::z44::z45::z46::z47 :: []).toArray, []⟩ w') :
    Code.wp Try.prog ((Try.f43.body.bind (findReg 4)).getD .skip) (Exit.then K Q) ⟨(z0::z1::(.pointer (some ⟨z, 0, none⟩))::(.pointer (some ⟨q, 0, none⟩))::z4::(.int .i64 1)::z6::z7::z8::z9::z10::z11::z12::z13::z14::z15::z16::z17::z18::z19::z20::z21::z22::z23::z24::z25::z26::z27::z28::z29::z30::z31::z32::z33::z34::z35::z36::z37::z38::z39::z40::z41::z42::z43::z44::z45::z46::z47 :: []).toArray, []⟩ W := by
  have HFIN := Lib.hid hfin
  have hni : (n : Int) < 9223372036854775807 := by omega
  have HWR : Hid (IntKind.i64.wrap ((n : Int) - 1) = (n : Int) - 1) := Lib.hid (by rw [IntKind.wrap_i64]; omega)
  have k14 : ∀ W', Steps (fun _ => False) W W' → W'.cell? ⟨z, 14, none⟩ = some (.slice fa n fc) := fun W' h => icell_apart h (fun h => h) hx
  have kq : ∀ W', Steps (fun _ => False) W W' → W'.cell? ⟨q, 1, none⟩ = some (.int .i64 t.b) := fun W' h => icell_apart h (fun h => h) hq
  obtain ⟨p, hp⟩ : ∃ p, isIm t.b n = p := ⟨_, rfl⟩
  have HP := Lib.hid hp
  have hbad : badAt t n 1 = (!p && (false || !decide (t.b = -1))) := by rw [← hp]; rfl
  have HBAD := Lib.hid hbad
  clear hfin hx hq hp hbad
  conv => arg 2; whnf
  refine (wpIn_wide (n := 0)).1 ?_
  refine wpIn_region_Wn (S := fun W' => Steps (fun _ => False) W W') 19 (by kernel_rfl) (by kernel_rfl) (Steps.refl _ W).drew (fun H0 => ?_)
  generalize W.drew = w0 at H0 ⊢
  refine wTk 0 11 ?_ ?_ ?_
  rotate_left
  · intro o h w k; (try dsimp only at k); simp only [gA, gB, gC, gG] at h; subst h; go_simp; try with_reducible rfl
  simp only [Act.put, gD, gE, gF]
  refine wTk 1 12 ?_ ?_ ?_
  rotate_left
  · intro o h w k; (try dsimp only at k); simp only [gA, gB, gC, gG] at h; subst h; go_simp; try with_reducible rfl
  simp only [Act.put, gD, gE, gF]
  refine wTk 2 13 ?_ ?_ ?_
  rotate_left
  · intro o h w k; (try dsimp only at k); simp only [gA, gB, gC, gG] at h; subst h; go_simp; try with_reducible rfl
  simp only [Act.put, gD, gE, gF]
  refine wTk 3 14 ?_ ?_ ?_
  rotate_left
  · intro o h w k; (try dsimp only at k); simp only [gA, gB, gC, gG] at h; subst h; go_simp; try with_reducible rfl
  simp only [Act.put, gD, gE, gF]
  refine wTk 4 15 ?_ ?_ ?_
  rotate_left
  · intro o h w k; (try dsimp only at k); simp only [gA, gB, gC, gG] at h; subst h; go_simp; try with_reducible rfl
  simp only [Act.put, gD, gE, gF]
  refine wTk 5 16 ?_ ?_ ?_
  rotate_left
  · intro o h w k; (try dsimp only at k); simp only [gA, gB, gC, gG] at h; subst h; go_simp; try with_reducible rfl
  simp only [Act.put, gD, gE, gF]
  refine wTk 6 17 ?_ ?_ ?_
  rotate_left
  · intro o h w k; (try dsimp only at k); simp only [gA, gB, gC, gG] at h; subst h; go_simp; try with_reducible rfl
  simp only [Act.put, gD, gE, gF]
  refine wpAnyW_one 7 (by kernel_rfl) (by kernel_rfl) ?_
  intro o ho K hK
  simp only [gA, gB, gC, gG] at ho
  subst ho
  go_simp
  rw [HWR.out]
  refine ⟨trivial, rfl, CallsIn.mono (callsIn_wide.2 (irin_any t.b 0 ((n : Int) - 1) w0)) ?_⟩
  rintro e w1 ⟨rfl, hww⟩
  rw [← hww, isIm_eq, HP.out]
  clear hww w1
  refine hK _ _ H0 (fun _ => ?_)
  clear hK K
  try simp only [Act.put, gD, gE, gF]
  cases p
  ·
    by_cases h1 : t.b = -1
    ·
      have hb1 : (t.b != -1) = false := by simp [h1]
      have hbv : badAt t n 1 = false := by rw [HBAD.out]; simp [h1]
      have HBV := Lib.hid hbv
      clear h1 hbv
      refine wTk 8 19 ?_ ?_ ?_
      rotate_left
      · intro o h w k; (try dsimp only at k); simp only [gA, gB, gC, gG] at h; subst h; go_simp; try with_reducible rfl
      simp only [Act.put, gD, gE, gF]
      refine wTk 9 20 ?_ ?_ ?_
      rotate_left
      · intro o h w k; (try dsimp only at k); simp only [gA, gB, gC, gG] at h; subst h; go_simp; try with_reducible rfl
      simp only [Act.put, gD, gE, gF]
      refine wTk 10 21 ?_ ?_ ?_
      rotate_left
      · intro o h w k; (try dsimp only at k); simp only [gA, gB, gC, gG] at h; subst h; go_simp; try with_reducible rfl
      simp only [Act.put, gD, gE, gF]
      refine wTk 11 22 ?_ ?_ ?_
      rotate_left
      · intro o h w k; (try dsimp only at k); simp only [gA, gB, gC, gG] at h; subst h; go_simp; try with_reducible rfl
      simp only [Act.put, gD, gE, gF]
      refine wTk 12 23 ?_ ?_ ?_
      rotate_left
      · intro o h w k; (try dsimp only at k); simp only [gA, gB, gC, gG] at h; subst h; go_simp; try with_reducible rfl
      simp only [Act.put, gD, gE, gF]
      refine wTk 13 24 ?_ ?_ ?_
      rotate_left
      · intro o h w k; (try dsimp only at k); simp only [gA, gB, gC, gG] at h; subst h; go_simp; try with_reducible rfl
      simp only [Act.put, gD, gE, gF]
      refine wTk 14 25 ?_ ?_ ?_
      rotate_left
      · intro o h w k; (try dsimp only at k); simp only [gA, gB, gC, gG] at h; subst h; go_simp; try with_reducible rfl
      simp only [Act.put, gD, gE, gF]
      refine wTk 15 26 ?_ ?_ ?_
      rotate_left
      · intro o h w k; (try dsimp only at k); simp only [gA, gB, gC, gG] at h; subst h; go_simp; try with_reducible rfl
      simp only [Act.put, gD, gE, gF]
      refine wTk 16 27 ?_ ?_ ?_
      rotate_left
      · intro o h w k; (try dsimp only at k); simp only [gA, gB, gC, gG] at h; subst h; go_simp; try with_reducible rfl
      simp only [Act.put, gD, gE, gF]
      refine wTk 17 28 ?_ ?_ ?_
      rotate_left
      · intro o h w k; (try dsimp only at k); simp only [gA, gB, gC, gG] at h; subst h; go_simp; try with_reducible rfl
      simp only [Act.put, gD, gE, gF]
      refine wTk 18 29 ?_ ?_ ?_
      rotate_left
      · intro o h w k; (try dsimp only at k); simp only [gA, gB, gC, gG] at h; subst h; go_simp; try with_reducible rfl
      simp only [Act.put, gD, gE, gF]
      refine wpAnyW_done (by kernel_rfl) ?_ _
      dsimp only [onNormal]
      have hf := HFIN.out
      rw [HBV.out] at hf
      exact hf _ _ _ _ _ _ _ _ _ _ _ _ _ _ _ _ _ _ _ H0
    ·
      have hb1 : (t.b != -1) = true := by simpa using h1
      have hbv : badAt t n 1 = true := by rw [HBAD.out]; simp [h1]
      have HBV := Lib.hid hbv
      clear h1 hbv
      refine wTk 8 19 ?_ ?_ ?_
      rotate_left
      · intro o h w k; (try dsimp only at k); simp only [gA, gB, gC, gG] at h; subst h; go_simp; try with_reducible rfl
      simp only [Act.put, gD, gE, gF]
      refine wTk 9 20 ?_ ?_ ?_
      rotate_left
      · intro o h w k; (try dsimp only at k); simp only [gA, gB, gC, gG] at h; subst h; go_simp; try with_reducible rfl
      simp only [Act.put, gD, gE, gF]
      refine wTk 10 21 ?_ ?_ ?_
      rotate_left
      · intro o h w k; (try dsimp only at k); simp only [gA, gB, gC, gG] at h; subst h; go_simp; try with_reducible rfl
      simp only [Act.put, gD, gE, gF]
      refine wTk 11 22 ?_ ?_ ?_
      rotate_left
      · intro o h w k; (try dsimp only at k); simp only [gA, gB, gC, gG] at h; subst h; go_simp; try with_reducible rfl
      simp only [Act.put, gD, gE, gF]
      refine wTk 12 23 ?_ ?_ ?_
      rotate_left
      · intro o h w k; (try dsimp only at k); simp only [gA, gB, gC, gG] at h; subst h; go_simp; try with_reducible rfl
      simp only [Act.put, gD, gE, gF]
      refine wTk 13 24 ?_ ?_ ?_
      rotate_left
      · intro o h w k; (try dsimp only at k); simp only [gA, gB, gC, gG] at h; subst h; go_simp; try with_reducible rfl
      simp only [Act.put, gD, gE, gF]
      refine wTk 14 25 ?_ ?_ ?_
      rotate_left
      · intro o h w k; (try dsimp only at k); simp only [gA, gB, gC, gG] at h; subst h; go_simp; try with_reducible rfl
      simp only [Act.put, gD, gE, gF]
      refine wTk 15 26 ?_ ?_ ?_
      rotate_left
      · intro o h w k; (try dsimp only at k); simp only [gA, gB, gC, gG] at h; subst h; go_simp; try with_reducible rfl
      simp only [Act.put, gD, gE, gF]
      refine wTk 16 27 ?_ ?_ ?_
      rotate_left
      · intro o h w k; (try dsimp only at k); simp only [gA, gB, gC, gG] at h; subst h; go_simp; try with_reducible rfl
      simp only [Act.put, gD, gE, gF]
      refine wTk 17 28 ?_ ?_ ?_
      rotate_left
      · intro o h w k; (try dsimp only at k); simp only [gA, gB, gC, gG] at h; subst h; go_simp; try with_reducible rfl
      simp only [Act.put, gD, gE, gF]
      refine wTk 18 29 ?_ ?_ ?_
      rotate_left
      · intro o h w k; (try dsimp only at k); simp only [gA, gB, gC, gG] at h; subst h; go_simp; try with_reducible rfl
      simp only [Act.put, gD, gE, gF]
      refine wpAnyW_done (by kernel_rfl) ?_ _
      dsimp only [onNormal]
      have hf := HFIN.out
      rw [HBV.out] at hf
      exact hf _ _ _ _ _ _ _ _ _ _ _ _ _ _ _ _ _ _ _ H0
  ·
    have hbv : badAt t n 1 = false := by rw [HBAD.out]; rfl
    refine wTk 8 19 ?_ ?_ ?_
    rotate_left
    · intro o h w k; (try dsimp only at k); simp only [gA, gB, gC, gG] at h; subst h; go_simp; try with_reducible rfl
    simp only [Act.put, gD, gE, gF]
    refine wTk 9 20 ?_ ?_ ?_
    rotate_left
    · intro o h w k; (try dsimp only at k); simp only [gA, gB, gC, gG] at h; subst h; go_simp; try with_reducible rfl
    simp only [Act.put, gD, gE, gF]
    refine wpAnyW_skipD 10 21 (by kernel_rfl) (by kernel_rfl) (by kernel_rfl) (by kernel_rfl) (fun _ _ _ h => h) (by assumption) ?_
    simp only [Act.put, gD, gE, gF]
    refine wpAnyW_skipD 11 22 (by kernel_rfl) (by kernel_rfl) (by kernel_rfl) (by kernel_rfl) (fun _ _ _ h => h) (by assumption) ?_
    simp only [Act.put, gD, gE, gF]
    refine wpAnyW_skipD 12 23 (by kernel_rfl) (by kernel_rfl) (by kernel_rfl) (by kernel_rfl) (fun _ _ _ h => h) (by assumption) ?_
    simp only [Act.put, gD, gE, gF]
    refine wpAnyW_skipD 13 24 (by kernel_rfl) (by kernel_rfl) (by kernel_rfl) (by kernel_rfl) (fun _ _ _ h => h) (by assumption) ?_
    simp only [Act.put, gD, gE, gF]
    refine wpAnyW_skipD 14 25 (by kernel_rfl) (by kernel_rfl) (by kernel_rfl) (by kernel_rfl) (fun _ _ _ h => h) (by assumption) ?_
    simp only [Act.put, gD, gE, gF]
    refine wpAnyW_skipD 15 26 (by kernel_rfl) (by kernel_rfl) (by kernel_rfl) (by kernel_rfl) (fun _ _ _ h => h) (by assumption) ?_
    simp only [Act.put, gD, gE, gF]
    refine wpAnyW_skipD 16 27 (by kernel_rfl) (by kernel_rfl) (by kernel_rfl) (by kernel_rfl) (fun _ _ _ h => h) (by assumption) ?_
    simp only [Act.put, gD, gE, gF]
    refine wpAnyW_skipD 17 28 (by kernel_rfl) (by kernel_rfl) (by kernel_rfl) (by kernel_rfl) (fun _ _ _ h => h) (by assumption) ?_
    simp only [Act.put, gD, gE, gF]
    refine wTk 18 29 ?_ ?_ ?_
    rotate_left
    · intro o h w k; (try dsimp only at k); simp only [gA, gB, gC, gG] at h; subst h; go_simp; try with_reducible rfl
    simp only [Act.put, gD, gE, gF]
    refine wpAnyW_done (by kernel_rfl) ?_ _
    dsimp only [onNormal]
    have hf := HFIN.out
    rw [hbv] at hf
    exact hf _ _ _ _ _ _ _ _ _ _ _ _ _ _ _ _ _ _ _ H0

theorem trail_reg4_2 (z q n : Nat) (fa : Option Addr) (fc : Nat) (t : ITr) (W : World) {z0 z1 z4 z6 z7 z8 z9 z10 z30 z31 z32 z33 z34 z35 z36 z37 z38 z39 z40 z41 z42 z43 z44 z45 z46 z47 : Value} {z11 z12 z13 z14 z15 z16 z17 z18 z19 z20 z21 z22 z23 z24 z25 z26 z27 z28 z29 : Value} (hx : W.cell? ⟨z, 14, none⟩ = some (.slice fa n fc)) (hn : n < 9223372036854775807) (hq : W.cell? ⟨q, 2, none⟩ = some (.int .i64 t.c)) (K : Act → World → Prop) (Q : Exit → Act → World → Prop)
    (hfin : ∀ (s11 s12 s13 s14 s15 s16 s17 s18 s19 s20 s21 s22 s23 s24 s25 s26 s27 s28 : Value) (w' : World), Steps (fun _ => False) W w' → K ⟨(z0::z1::(.pointer (some ⟨z, 0, none⟩))::(.pointer (some ⟨q, 0, none⟩))::z4::(.int .i64 2)::z6::z7::z8::z9::z10::s11::s12::s13::s14::s15::s16::s17::s18::s19::s20::s21::s22::s23::s24::s25::s26::s27::s28::(.bool (badAt t n 2))::z30::z31::z32::z33::z34::z35::z36::z37::z38::z39::z40::z41::z42::z43::z44::z45::z46::z47 :: []).toArray, []⟩ w') :
    Code.wp Try.prog ((Try.f43.body.bind (findReg 4)).getD .skip) (Exit.then K Q) ⟨(z0::z1::(.pointer (some ⟨z, 0, none⟩))::(.pointer (some ⟨q, 0, none⟩))::z4::(.int .i64 2)::z6::z7::z8::z9::z10::z11::z12::z13::z14::z15::z16::z17::z18::z19::z20::z21::z22::z23::z24::z25::z26::z27::z28::z29::z30::z31::z32::z33::z34::z35::z36::z37::z38::z39::z40::z41::z42::z43::z44::z45::z46::z47 :: []).toArray, []⟩ W := by
  have HFIN := Lib.hid hfin
  have hni : (n : Int) < 9223372036854775807 := by omega
  have HWR : Hid (IntKind.i64.wrap ((n : Int) - 1) = (n : Int) - 1) := Lib.hid (by rw [IntKind.wrap_i64]; omega)
  have k14 : ∀ W', Steps (fun _ => False) W W' → W'.cell? ⟨z, 14, none⟩ = some (.slice fa n fc) := fun W' h => icell_apart h (fun h => h) hx
  have kq : ∀ W', Steps (fun _ => False) W W' → W'.cell? ⟨q, 2, none⟩ = some (.int .i64 t.c) := fun W' h => icell_apart h (fun h => h) hq
  obtain ⟨p, hp⟩ : ∃ p, isIm t.c n = p := ⟨_, rfl⟩
  have HP := Lib.hid hp
  have hbad : badAt t n 2 = (!p && (false || !decide (t.c = -1))) := by rw [← hp]; rfl
  have HBAD := Lib.hid hbad
  clear hfin hx hq hp hbad
  conv => arg 2; whnf
  refine (wpIn_wide (n := 0)).1 ?_
  refine wpIn_region_Wn (S := fun W' => Steps (fun _ => False) W W') 19 (by kernel_rfl) (by kernel_rfl) (Steps.refl _ W).drew (fun H0 => ?_)
  generalize W.drew = w0 at H0 ⊢
  refine wTk 0 11 ?_ ?_ ?_
  rotate_left
  · intro o h w k; (try dsimp only at k); simp only [gA, gB, gC, gG] at h; subst h; go_simp; try with_reducible rfl
  simp only [Act.put, gD, gE, gF]
  refine wTk 1 12 ?_ ?_ ?_
  rotate_left
  · intro o h w k; (try dsimp only at k); simp only [gA, gB, gC, gG] at h; subst h; go_simp; try with_reducible rfl
  simp only [Act.put, gD, gE, gF]
  refine wTk 2 13 ?_ ?_ ?_
  rotate_left
  · intro o h w k; (try dsimp only at k); simp only [gA, gB, gC, gG] at h; subst h; go_simp; try with_reducible rfl
  simp only [Act.put, gD, gE, gF]
  refine wTk 3 14 ?_ ?_ ?_
  rotate_left
  · intro o h w k; (try dsimp only at k); simp only [gA, gB, gC, gG] at h; subst h; go_simp; try with_reducible rfl
  simp only [Act.put, gD, gE, gF]
  refine wTk 4 15 ?_ ?_ ?_
  rotate_left
  · intro o h w k; (try dsimp only at k); simp only [gA, gB, gC, gG] at h; subst h; go_simp; try with_reducible rfl
  simp only [Act.put, gD, gE, gF]
  refine wTk 5 16 ?_ ?_ ?_
  rotate_left
  · intro o h w k; (try dsimp only at k); simp only [gA, gB, gC, gG] at h; subst h; go_simp; try with_reducible rfl
  simp only [Act.put, gD, gE, gF]
  refine wTk 6 17 ?_ ?_ ?_
  rotate_left
  · intro o h w k; (try dsimp only at k); simp only [gA, gB, gC, gG] at h; subst h; go_simp; try with_reducible rfl
  simp only [Act.put, gD, gE, gF]
  refine wpAnyW_one 7 (by kernel_rfl) (by kernel_rfl) ?_
  intro o ho K hK
  simp only [gA, gB, gC, gG] at ho
  subst ho
  go_simp
  rw [HWR.out]
  refine ⟨trivial, rfl, CallsIn.mono (callsIn_wide.2 (irin_any t.c 0 ((n : Int) - 1) w0)) ?_⟩
  rintro e w1 ⟨rfl, hww⟩
  rw [← hww, isIm_eq, HP.out]
  clear hww w1
  refine hK _ _ H0 (fun _ => ?_)
  clear hK K
  try simp only [Act.put, gD, gE, gF]
  cases p
  ·
    by_cases h1 : t.c = -1
    ·
      have hb1 : (t.c != -1) = false := by simp [h1]
      have hbv : badAt t n 2 = false := by rw [HBAD.out]; simp [h1]
      have HBV := Lib.hid hbv
      clear h1 hbv
      refine wTk 8 19 ?_ ?_ ?_
      rotate_left
      · intro o h w k; (try dsimp only at k); simp only [gA, gB, gC, gG] at h; subst h; go_simp; try with_reducible rfl
      simp only [Act.put, gD, gE, gF]
      refine wTk 9 20 ?_ ?_ ?_
      rotate_left
      · intro o h w k; (try dsimp only at k); simp only [gA, gB, gC, gG] at h; subst h; go_simp; try with_reducible rfl
      simp only [Act.put, gD, gE, gF]
      refine wTk 10 21 ?_ ?_ ?_
      rotate_left
      · intro o h w k; (try dsimp only at k); simp only [gA, gB, gC, gG] at h; subst h; go_simp; try with_reducible rfl
      simp only [Act.put, gD, gE, gF]
      refine wTk 11 22 ?_ ?_ ?_
      rotate_left
      · intro o h w k; (try dsimp only at k); simp only [gA, gB, gC, gG] at h; subst h; go_simp; try with_reducible rfl
      simp only [Act.put, gD, gE, gF]
      refine wTk 12 23 ?_ ?_ ?_
      rotate_left
      · intro o h w k; (try dsimp only at k); simp only [gA, gB, gC, gG] at h; subst h; go_simp; try with_reducible rfl
      simp only [Act.put, gD, gE, gF]
      refine wTk 13 24 ?_ ?_ ?_
      rotate_left
      · intro o h w k; (try dsimp only at k); simp only [gA, gB, gC, gG] at h; subst h; go_simp; try with_reducible rfl
      simp only [Act.put, gD, gE, gF]
      refine wTk 14 25 ?_ ?_ ?_
      rotate_left
      · intro o h w k; (try dsimp only at k); simp only [gA, gB, gC, gG] at h; subst h; go_simp; try with_reducible rfl
      simp only [Act.put, gD, gE, gF]
      refine wTk 15 26 ?_ ?_ ?_
      rotate_left
      · intro o h w k; (try dsimp only at k); simp only [gA, gB, gC, gG] at h; subst h; go_simp; try with_reducible rfl
      simp only [Act.put, gD, gE, gF]
      refine wTk 16 27 ?_ ?_ ?_
      rotate_left
      · intro o h w k; (try dsimp only at k); simp only [gA, gB, gC, gG] at h; subst h; go_simp; try with_reducible rfl
      simp only [Act.put, gD, gE, gF]
      refine wTk 17 28 ?_ ?_ ?_
      rotate_left
      · intro o h w k; (try dsimp only at k); simp only [gA, gB, gC, gG] at h; subst h; go_simp; try with_reducible rfl
      simp only [Act.put, gD, gE, gF]
      refine wTk 18 29 ?_ ?_ ?_
      rotate_left
      · intro o h w k; (try dsimp only at k); simp only [gA, gB, gC, gG] at h; subst h; go_simp; try with_reducible rfl
      simp only [Act.put, gD, gE, gF]
      refine wpAnyW_done (by kernel_rfl) ?_ _
      dsimp only [onNormal]
      have hf := HFIN.out
      rw [HBV.out] at hf
      exact hf _ _ _ _ _ _ _ _ _ _ _ _ _ _ _ _ _ _ _ H0
    ·
      have hb1 : (t.c != -1) = true := by simpa using h1
      have hbv : badAt t n 2 = true := by rw [HBAD.out]; simp [h1]
      have HBV := Lib.hid hbv
      clear h1 hbv
      refine wTk 8 19 ?_ ?_ ?_
      rotate_left
      · intro o h w k; (try dsimp only at k); simp only [gA, gB, gC, gG] at h; subst h; go_simp; try with_reducible rfl
      simp only [Act.put, gD, gE, gF]
      refine wTk 9 20 ?_ ?_ ?_
      rotate_left
      · intro o h w k; (try dsimp only at k); simp only [gA, gB, gC, gG] at h; subst h; go_simp; try with_reducible rfl
      simp only [Act.put, gD, gE, gF]
      refine wTk 10 21 ?_ ?_ ?_
      rotate_left
      · intro o h w k; (try dsimp only at k); simp only [gA, gB, gC, gG] at h; subst h; go_simp; try with_reducible rfl
      simp only [Act.put, gD, gE, gF]
      refine wTk 11 22 ?_ ?_ ?_
      rotate_left
      · intro o h w k; (try dsimp only at k); simp only [gA, gB, gC, gG] at h; subst h; go_simp; try with_reducible rfl
      simp only [Act.put, gD, gE, gF]
      refine wTk 12 23 ?_ ?_ ?_
      rotate_left
      · intro o h w k; (try dsimp only at k); simp only [gA, gB, gC, gG] at h; subst h; go_simp; try with_reducible rfl
      simp only [Act.put, gD, gE, gF]
      refine wTk 13 24 ?_ ?_ ?_
      rotate_left
      · intro o h w k; (try dsimp only at k); simp only [gA, gB, gC, gG] at h; subst h; go_simp; try with_reducible rfl
      simp only [Act.put, gD, gE, gF]
      refine wTk 14 25 ?_ ?_ ?_
      rotate_left
      · intro o h w k; (try dsimp only at k); simp only [gA, gB, gC, gG] at h; subst h; go_simp; try with_reducible rfl
      simp only [Act.put, gD, gE, gF]
      refine wTk 15 26 ?_ ?_ ?_
      rotate_left
      · intro o h w k; (try dsimp only at k); simp only [gA, gB, gC, gG] at h; subst h; go_simp; try with_reducible rfl
      simp only [Act.put, gD, gE, gF]
      refine wTk 16 27 ?_ ?_ ?_
      rotate_left
      · intro o h w k; (try dsimp only at k); simp only [gA, gB, gC, gG] at h; subst h; go_simp; try with_reducible rfl
      simp only [Act.put, gD, gE, gF]
      refine wTk 17 28 ?_ ?_ ?_
      rotate_left
      · intro o h w k; (try dsimp only at k); simp only [gA, gB, gC, gG] at h; subst h; go_simp; try with_reducible rfl
      simp only [Act.put, gD, gE, gF]
      refine wTk 18 29 ?_ ?_ ?_
      rotate_left
      · intro o h w k; (try dsimp only at k); simp only [gA, gB, gC, gG] at h; subst h; go_simp; try with_reducible rfl
      simp only [Act.put, gD, gE, gF]
      refine wpAnyW_done (by kernel_rfl) ?_ _
      dsimp only [onNormal]
      have hf := HFIN.out
      rw [HBV.out] at hf
      exact hf _ _ _ _ _ _ _ _ _ _ _ _ _ _ _ _ _ _ _ H0
  ·
    have hbv : badAt t n 2 = false := by rw [HBAD.out]; rfl
    refine wTk 8 19 ?_ ?_ ?_
    rotate_left
    · intro o h w k; (try dsimp only at k); simp only [gA, gB, gC, gG] at h; subst h; go_simp; try with_reducible rfl
    simp only [Act.put, gD, gE, gF]
    refine wTk 9 20 ?_ ?_ ?_
    rotate_left
    · intro o h w k; (try dsimp only at k); simp only [gA, gB, gC, gG] at h; subst h; go_simp; try with_reducible rfl
    simp only [Act.put, gD, gE, gF]
    refine wpAnyW_skipD 10 21 (by kernel_rfl) (by kernel_rfl) (by kernel_rfl) (by kernel_rfl) (fun _ _ _ h => h) (by assumption) ?_
    simp only [Act.put, gD, gE, gF]
    refine wpAnyW_skipD 11 22 (by kernel_rfl) (by kernel_rfl) (by kernel_rfl) (by kernel_rfl) (fun _ _ _ h => h) (by assumption) ?_
    simp only [Act.put, gD, gE, gF]
    refine wpAnyW_skipD 12 23 (by kernel_rfl) (by kernel_rfl) (by kernel_rfl) (by kernel_rfl) (fun _ _ _ h => h) (by assumption) ?_
    simp only [Act.put, gD, gE, gF]
    refine wpAnyW_skipD 13 24 (by kernel_rfl) (by kernel_rfl) (by kernel_rfl) (by kernel_rfl) (fun _ _ _ h => h) (by assumption) ?_
    simp only [Act.put, gD, gE, gF]
    refine wpAnyW_skipD 14 25 (by kernel_rfl) (by kernel_rfl) (by kernel_rfl) (by kernel_rfl) (fun _ _ _ h => h) (by assumption) ?_
    simp only [Act.put, gD, gE, gF]
    refine wpAnyW_skipD 15 26 (by kernel_rfl) (by kernel_rfl) (by kernel_rfl) (by kernel_rfl) (fun _ _ _ h => h) (by assumption) ?_
    simp only [Act.put, gD, gE, gF]
    refine wpAnyW_skipD 16 27 (by kernel_rfl) (by kernel_rfl) (by kernel_rfl) (by kernel_rfl) (fun _ _ _ h => h) (by assumption) ?_
    simp only [Act.put, gD, gE, gF]
    refine wpAnyW_skipD 17 28 (by kernel_rfl) (by kernel_rfl) (by kernel_rfl) (by kernel_rfl) (fun _ _ _ h => h) (by assumption) ?_
    simp only [Act.put, gD, gE, gF]
    refine wTk 18 29 ?_ ?_ ?_
    rotate_left
    · intro o h w k; (try dsimp only at k); simp only [gA, gB, gC, gG] at h; subst h; go_simp; try with_reducible rfl
    simp only [Act.put, gD, gE, gF]
    refine wpAnyW_done (by kernel_rfl) ?_ _
    dsimp only [onNormal]
    have hf := HFIN.out
    rw [hbv] at hf
    exact hf _ _ _ _ _ _ _ _ _ _ _ _ _ _ _ _ _ _ _ H0

/-- What has been found of the entries below e: each is good, and differs from those before. -/
def difTo (t : ITr) (e f : Nat) : Prop := ∀ g, g < f → ¬ (t.at' e = t.at' g ∧ t.at' e ≠ -1)
theorem trail_ok (t : ITr) (n : Nat) (h : ∀ e, e < 3 → badAt t n e = false ∧ difTo t e e) : t.ok n = true := by
  obtain ⟨a, b, c⟩ := t
  have h0 := h 0 (by omega)
  have h1 := h 1 (by omega)
  have h2 := h 2 (by omega)
  have d1 := h1.2 0 (by omega)
  have d2 := h2.2 0 (by omega)
  have d3 := h2.2 1 (by omega)
  have b0 := h0.1
  have b1 := h1.1
  have b2 := h2.1
  simp [badAt, ITr.at'] at b0 b1 b2
  simp [ITr.at'] at d1 d2 d3
  unfold ITr.ok
  simp only [Bool.and_eq_true, Bool.or_eq_true, decide_eq_true_eq]
  refine ⟨⟨b0, ?_⟩, ?_⟩
  · by_cases hb : b = -1
    · exact .inl hb
    · exact .inr ⟨by cases hi : isIm b n; exact absurd (b1 hi) hb; rfl, fun e => hb (d1 e)⟩
  · by_cases hc : c = -1
    · exact .inl hc
    · exact .inr ⟨⟨by cases hi : isIm c n; exact absurd (b2 hi) hc; rfl, fun e => hc (d2 e)⟩, fun e => hc (d3 e)⟩
theorem trail_bad (t : ITr) (n e : Nat) (he : e < 3) (h : badAt t n e = true) : t.ok n = false := by
  obtain ⟨a, b, c⟩ := t
  unfold ITr.ok
  rcases e with _ | _ | _ | e
  · simp [badAt, ITr.at'] at h
    simp [h]
  · simp [badAt, ITr.at'] at h
    simp [h.1, h.2]
  · simp [badAt, ITr.at'] at h
    simp [h.1, h.2]
  · omega
theorem trail_dif (t : ITr) (n e f : Nat) (he : e < 3) (hf : f < e) (h : t.at' e = t.at' f) (h2 : t.at' e ≠ -1) : t.ok n = false := by
  obtain ⟨a, b, c⟩ := t
  unfold ITr.ok
  rcases e with _ | _ | _ | e
  · omega
  · obtain rfl : f = 0 := by omega
    simp [ITr.at'] at h h2
    simp [h, h2]
    intro; omega
  · simp [ITr.at'] at h h2
    rcases f with _ | _ | f
    · simp at h
      simp [h, h2]
      intros; omega
    · simp at h
      simp [h, h2]
      intros; omega
    · omega
  · omega
end Go.Proofs.Ytacioedolmaofaa
