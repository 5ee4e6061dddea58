/- A store: four cells, a row of pointers to pages. -/
import Derived.Test.YtkigdcihhlkkdaaFGPage
set_option linter.unusedVariables false
set_option linter.unusedSimpArgs false
namespace Go.Proofs.Ytkigdcihhlkkdaa.P
open Go.RowKit Go.Proofs.YtkigdcihhlkkdaaW.PrintWords Go.Proofs.YtkigdcihhlkkdaaW.PrintLast Go.Proofs.YtkigdcihhlkkdaaW.PrintMore
structure Pg where
  blk : Nat
  ok : Nat → Prop
  rows : List (List Int)
def Pg.cell (p : Pg) : List Value := [.pointer (some ⟨p.blk, 0, none⟩)]
def flat (ps : List Pg) : List (List Int) := (ps.map Pg.rows).flatten
def mid : List Pg → Prop
  | [] => True
  | [_] => True
  | p :: q :: r => p.rows.length = 16 ∧ mid (q :: r)
structure Inv (ps : List Pg) : Prop where
  some_ : ∀ p ∈ ps, p.rows ≠ []
  most : ∀ p ∈ ps, p.rows.length ≤ 16
  full : mid ps.tail
theorem mid_tail : ∀ {ps : List Pg}, mid ps → mid ps.tail
  | [], _ => trivial
  | [_], _ => trivial
  | _ :: _ :: _, h => h.2
theorem Inv.tail {ps : List Pg} (h : Inv ps) : Inv ps.tail :=
  ⟨fun p hp => h.some_ p (List.mem_of_mem_tail hp), fun p hp => h.most p (List.mem_of_mem_tail hp), mid_tail h.full⟩
def StoreAt (W : World) (ok : Nat → Prop) (s : Nat) (lim n gone : Int) (ps : List Pg) : Prop :=
  ok s ∧ ∃ v, W.heap[s]? = some (.cells #[.int .i64 lim, v, .int .i64 n, .int .i64 gone] 91 (0, 0)) ∧ (Kd.raw 1).Q 49 W 0 (fun k => ok k ∧ k ≠ s) v (ps.map Pg.cell) ∧
    (∀ p ∈ ps, PageAt W p.ok p.blk p.rows ∧ ∀ k, p.ok k → ok k ∧ k ≠ s ∧ some k ≠ v.ownBlock) ∧ ps.Pairwise (fun p q => ∀ k, p.ok k → ¬ q.ok k)
namespace StoreAt
variable {W W' : World} {ok ok' S : Nat → Prop} {s : Nat} {lim n gone : Int} {ps : List Pg}
theorem step (h : StoreAt W ok s lim n gone ps) (hm : ∀ k, ok k → k < W.heap.size → W'.heap[k]? = W.heap[k]?) : StoreAt W' ok s lim n gone ps := by
  obtain ⟨h0, v, hg, hv, hp, hd⟩ := h
  exact ⟨h0, v, (hm s h0 (blk_lt hg)).trans hg, Kd.Q_step hv (fun k hk hlt => hm k hk.1 hlt), fun p hpm => ⟨(hp p hpm).1.step (fun k hk hlt => hm k ((hp p hpm).2 k hk).1 hlt), (hp p hpm).2⟩, hd⟩
theorem mono (h : StoreAt W ok s lim n gone ps) (hok : ∀ k, ok k → ok' k) : StoreAt W ok' s lim n gone ps := by
  obtain ⟨h0, v, hg, hv, hp, hd⟩ := h
  exact ⟨hok s h0, v, hg, Kd.Q_mono hv (fun k hk => ⟨hok k hk.1, hk.2⟩), fun p hpm => ⟨(hp p hpm).1, fun k hk => ⟨hok k ((hp p hpm).2 k hk).1, ((hp p hpm).2 k hk).2⟩⟩, hd⟩
theorem below (h : StoreAt W ok s lim n gone ps) (hf : Below W.heap.size W W') : StoreAt W' ok s lim n gone ps := h.step (fun k hk hlt => hf.block k hlt)
theorem fr (h : StoreAt W ok s lim n gone ps) (hf : Fr S W W') (hs : ∀ k, ok k → ¬ S k) : StoreAt W' ok s lim n gone ps := h.step (fun k hk hlt => hf.block k hlt (hs k hk))
theorem lt (h : StoreAt W ok s lim n gone ps) : s < W.heap.size := by
  obtain ⟨h0, v, hg, _⟩ := h
  exact blk_lt hg
end StoreAt
theorem blk4 {W : World} {g t : Nat} {a b c d : Value} (h : W.heap[g]? = some (.cells #[a, b, c, d] t (0, 0))) : (W.cell? ⟨g, 0, none⟩ = some a ∧ W.cell? ⟨g, 1, none⟩ = some b ∧ W.cell? ⟨g, 2, none⟩ = some c ∧ W.cell? ⟨g, 3, none⟩ = some d) ∧ W.frozen? ⟨g, 0, none⟩ = false ∧ W.frozen? ⟨g, 1, none⟩ = false ∧ W.frozen? ⟨g, 2, none⟩ = false ∧ W.frozen? ⟨g, 3, none⟩ = false :=
  ⟨⟨(blk_cell h 0).trans rfl, (blk_cell h 1).trans rfl, (blk_cell h 2).trans rfl, (blk_cell h 3).trans rfl⟩, blk_frozen h 0, blk_frozen h 1, blk_frozen h 2, blk_frozen h 3⟩
theorem Addr.add_zero_ (ad : Addr) : ad.add 0 = ad := rfl
theorem PageAt.drewN {W : World} {ok : Nat → Prop} {g : Nat} {rows : List (List Int)} (h : PageAt W ok g rows) (m : Nat) : PageAt (W.drewN m) ok g rows := h.step (fun _ _ _ => rfl)
theorem PageAt.set {W : World} {ok : Nat → Prop} {g s : Nat} {rows : List (List Int)} (h : PageAt W ok g rows) (hs : ¬ ok s) (j : Nat) (u : Value) : PageAt (W.setCell ⟨s, j, none⟩ u) ok g rows :=
  h.step (fun k hk _ => Below.heap_setCell W ⟨s, j, none⟩ u k (fun e => hs (by have e' : k = s := e; rw [← e']; exact hk)))
theorem cell_far_ {W : World} {ad : Addr} {v : Value} {s : Nat} (h : W.cell? ad = some v) (hne : ad.block ≠ s) (j : Nat) (u : Value) : (W.setCell ⟨s, j, none⟩ u).cell? ad = some v := by
  rw [← h]
  unfold World.cell?
  rw [Below.heap_setCell W ⟨s, j, none⟩ u ad.block hne]
theorem quiet_of2 {P : Program} {f : FuncId} {args : Array Value} {w : World} {a b : Nat} {v : Value}
    (h : Calls P f args (w.drewN (a + b)) fun e w' => e = .returned v ∧ ∃ m, w' = (w.drewN (a + b)).drewN m) : Calls P f args (w.drewN (a + b)) fun e w'' => e = .returned v ∧ ∃ n, w'' = w.drewN (a + n) :=
  h.mono fun _ _ ⟨he, m, hm⟩ => ⟨he, b + m, by rw [hm, World.drewN_drewN, Nat.add_assoc]⟩
theorem ptr_at {W : World} {okv : Nat → Prop} {A : Option Addr} {n c : Nat} {ps : List Pg} (h : (Kd.raw 1).Q 49 W 0 okv (.slice A n c) (ps.map Pg.cell)) {i : Nat} {p : Pg} (hp : ps[i]? = some p) : ∃ ad, A = some ad ∧ W.cell? (ad.add i) = some (.pointer (some ⟨p.blk, 0, none⟩)) := by
  obtain ⟨hn, hc, hC⟩ := Kd.Q_reads' h
  have hil := (List.getElem?_eq_some_iff.1 hp).1
  obtain ⟨ad, cs, hA, hcl, hK, hcc⟩ := ReadsRow.get_ hC [] (i : Int) (by omega) (by simp; omega)
  refine ⟨ad, hA, ?_⟩
  have hcs : cs = p.cell := by
    have := hK.1
    rw [this, List.getD_eq_getElem?_getD, Int.toNat_natCast, List.getElem?_map, hp]
    rfl
  subst hcs
  simpa [Kd.raw] using hcc 0 _ rfl
theorem StoreAt.rebuild {w2 w3 : World} {ok : Nat → Prop} {s : Nat} {lim n gone : Int} {v : Value} {ps : List Pg} (h0 : ok s) (hg : w3.heap[s]? = some (.cells #[.int .i64 lim, v, .int .i64 n, .int .i64 gone] 91 (0, 0)))
    (hoth : ∀ k, k ≠ s → w3.heap[k]? = w2.heap[k]?) (hQ : (Kd.raw 1).Q 49 w2 0 (fun k => ok k ∧ k ≠ s) v (ps.map Pg.cell))
    (hp : ∀ p ∈ ps, PageAt w2 p.ok p.blk p.rows ∧ ∀ k, p.ok k → ok k ∧ k ≠ s ∧ some k ≠ v.ownBlock) (hd : ps.Pairwise (fun p q => ∀ k, p.ok k → ¬ q.ok k)) : StoreAt w3 ok s lim n gone ps :=
  ⟨h0, v, hg, Kd.Q_step hQ (fun k hk _ => hoth k hk.2), fun p hpm => ⟨(hp p hpm).1.step (fun k hk _ => hoth k ((hp p hpm).2 k hk).2.1), (hp p hpm).2⟩, hd⟩
theorem flat_cons (p : Pg) (ps : List Pg) : flat (p :: ps) = p.rows ++ flat ps := rfl
theorem cut_inv {p0 : Pg} {rest : List Pg} {F : List (List Int)} {n n' gone gone' lim K : Int} {ok : Nat → Prop} {gk : Nat} (hI : Inv (p0 :: rest)) (hF : flat (p0 :: rest) = F.drop (n - n').toNat) (hN : n' = (flat (p0 :: rest)).length) (hnn : n' ≤ n) (hgn : gone' + n' = gone + n) (hk : (p0 :: rest).length < gk)
    (hK0 : 0 ≤ K ∧ K ≤ n' - lim ∧ K ≤ p0.rows.length ∧ (K = n' - lim ∨ K = p0.rows.length)) (ps2 : List Pg) (hps : (ps2 = rest ∧ p0.rows.length - K.toNat = 0) ∨ (ps2 = { p0 with rows := p0.rows.drop K.toNat } :: rest ∧ p0.rows.length - K.toNat ≠ 0)) :
    Inv ps2 ∧ flat ps2 = F.drop (n - (n' - K)).toNat ∧ n' - K = (flat ps2).length ∧ n' - K ≤ n ∧ (lim ≤ n' - K ∨ n' - K = n) ∧ (gone' + K) + (n' - K) = gone + n ∧ (lim < n' - K → ps2.length < gk - 1) := by
  have hfl : flat ps2 = (flat (p0 :: rest)).drop K.toNat := by
    rw [flat_cons]
    rcases hps with ⟨rfl, he⟩ | ⟨rfl, he⟩
    · rw [List.drop_append_of_le_length (by omega), List.drop_of_length_le (by omega), List.nil_append]
    · rw [flat_cons, List.drop_append_of_le_length (by omega)]
  have hlen : p0.rows.length ≤ (flat (p0 :: rest)).length := by rw [flat_cons, List.length_append]; omega
  refine ⟨?_, ?_, ?_, by omega, .inl (by omega), by omega, ?_⟩
  · rcases hps with ⟨rfl, he⟩ | ⟨rfl, he⟩
    · exact hI.tail
    · refine ⟨fun p hp => ?_, fun p hp => ?_, hI.full⟩
      · rcases List.mem_cons.1 hp with rfl | hp
        · intro h0
          have := congrArg List.length h0
          simp only [List.length_drop, List.length_nil] at this
          omega
        · exact hI.some_ p (by simp [hp])
      · rcases List.mem_cons.1 hp with rfl | hp
        · have := hI.most p0 (by simp)
          simp only [List.length_drop]
          omega
        · exact hI.most p (by simp [hp])
  · rw [hfl, hF, List.drop_drop]
    congr 1
    omega
  · rw [hfl, List.length_drop]
    omega
  · intro hlt
    simp only [List.length_cons] at hk
    rcases hps with ⟨rfl, he⟩ | ⟨rfl, he⟩
    · omega
    · omega
set_option maxHeartbeats 2000000 in
set_option maxRecDepth 100000 in
theorem store_len (W : World) (ok : Nat → Prop) (s : Nat) (lim n gone : Int) (ps : List Pg) (h : StoreAt W ok s lim n gone ps) :
    Calls Try.prog 44 #[.pointer (some ⟨s, 0, none⟩)] W fun e w' => e = .returned (.int .i64 n) ∧ Drawn0 W w' := by
  obtain ⟨_, v, hg, _⟩ := h
  obtain ⟨⟨h0, h1, h2, h3⟩, _⟩ := blk4 hg
  go_enter Try.func44, Try.ntmps44
  go_wp2
  all_goals go_ret
  all_goals exact ⟨by first | rfl | simp, Drawn0.refl _⟩
set_option maxHeartbeats 2000000 in
set_option maxRecDepth 100000 in
theorem store_gone (W : World) (ok : Nat → Prop) (s : Nat) (lim n gone : Int) (ps : List Pg) (h : StoreAt W ok s lim n gone ps) :
    Calls Try.prog 45 #[.pointer (some ⟨s, 0, none⟩)] W fun e w' => e = .returned (.int .i64 gone) ∧ Drawn0 W w' := by
  obtain ⟨_, v, hg, _⟩ := h
  obtain ⟨⟨h0, h1, h2, h3⟩, _⟩ := blk4 hg
  go_enter Try.func45, Try.ntmps45
  go_wp2
  all_goals go_ret
  all_goals exact ⟨by first | rfl | simp, Drawn0.refl _⟩
set_option maxHeartbeats 2000000 in
set_option maxRecDepth 100000 in
theorem store_new (W : World) (lim : Int) : Calls Try.prog 39 #[.int .i64 lim] W fun e w' => ∃ s, e = .returned (.pointer (some ⟨s, 0, none⟩)) ∧ W.heap.size ≤ s ∧ StoreAt w' (fun k => W.heap.size ≤ k) s (min (max lim 0) 1000000) 0 0 [] ∧ Below W.heap.size W w' := by
  go_enter Try.func39, Try.ntmps39
  go_wp2
  go_ret
  exact ⟨W.heap.size, rfl, Nat.le_refl _, ⟨Nat.le_refl _, .slice none 0 0, by simp [World.alloc, -World.alloc_eq], Kd.Q_nil _ _ _ _ _, fun p hp => by simp at hp, List.Pairwise.nil⟩, below_alloc (Below.refl _ _) _⟩
set_option maxHeartbeats 2000000 in
set_option maxRecDepth 100000 in
theorem store_cuts (W : World) (ok : Nat → Prop) (s : Nat) (lim n gone : Int) (ps : List Pg) (h : StoreAt W ok s lim n gone ps) (hi : Inv ps) (hn : n = (flat ps).length) (hn2 : n ≤ 1000000000) (hl : 0 ≤ lim) (hg0 : 0 ≤ gone) (hg1 : gone ≤ 1000000000) :
    Calls Try.prog 62 #[.pointer (some ⟨s, 0, none⟩)] W fun e w' => e = .returned (.tuple #[]) ∧ ∃ ps' n' gone', StoreAt w' ok s lim n' gone' ps' ∧ Inv ps' ∧ flat ps' = (flat ps).drop (n - n').toNat ∧ n' = min n lim ∧ gone' + n' = gone + n ∧ Fr ok W w' := by
  go_enter Try.func62, Try.ntmps62
  go_wp2
  go_loopg [2] (ps.length + 1) (fun kq v2 w' => ∃ (ps' : List Pg) (n' gone' : Int), Aside0 (StoreAt w' ok s lim n' gone' ps' ∧ Inv ps' ∧ flat ps' = (flat ps).drop (n - n').toNat ∧ n' = (flat ps').length ∧ n' ≤ n ∧ (lim ≤ n' ∨ n' = n) ∧ gone' + n' = gone + n ∧ Fr ok W w' ∧ (lim < n' → ps'.length < kq)))
  case atStart => exact ⟨ps, n, gone, ⟨h, hi, by simp, hn, Int.le_refl _, .inr rfl, rfl, Fr.refl _ _, fun _ => Nat.lt_succ_self _⟩⟩
  case round =>
    have HX := Aside0.mk hn
    clear hn
    obtain ⟨ps', n', gone', HA⟩ := hrel
    obtain ⟨hs0, v, hg, hv, hp, hd⟩ := HA.out.1
    obtain ⟨A, c, rfl, hc⟩ := Kd.Q_slice hv
    rw [List.length_map] at hg hv hc
    obtain ⟨⟨h0, h1, h2, h3⟩, f0, f1, f2, f3⟩ := blk4 hg
    by_cases hlt : lim < n'
    · have hne : ps' ≠ [] := by rintro rfl; have := HA.out.2.2.2.1; simp [flat] at this; omega
      obtain ⟨p0, rest, rfl⟩ := List.exists_cons_of_ne_nil hne
      obtain ⟨ad, rfl, hp0⟩ := ptr_at hv (i := 0) (p := p0) rfl
      rw [Addr.add_zero_] at hp0
      obtain ⟨hP0, hP0n⟩ := hp p0 (by simp)
      have hsn : ¬ p0.ok s := fun hq => (hP0n s hq).2.1 rfl
      have hvn : ∀ k, (Value.slice (some ad) (p0 :: rest).length c).ownBlock = some k → ¬ p0.ok k := fun k hk hq => (hP0n k hq).2.2 hk.symm
      have hw1 : IntKind.i64.wrap (n' - lim) = n' - lim := by have := HA.out; rw [IntKind.wrap_i64]; omega
      go_wp2
      go_quiet (fail)
      go_wp2
      go_quiet ((go_at_call 37; exact quiet_of2 ((page_len _ p0.ok p0.blk p0.rows (hP0.drewN _)).mono (fun e w1 h => ⟨h.1, h.2.out⟩))))
      go_wp2_with (first
        | (go_at_call 35
           generalize hKe : min (n' - lim) (p0.rows.length : Int) = K
           refine (page_cut _ p0.ok p0.blk p0.rows K (hP0.drewN _)).mono ?_
           rintro e w2 ⟨rfl, hP2, hfr2⟩
           have hK0 : 0 ≤ K ∧ K ≤ n' - lim ∧ K ≤ p0.rows.length ∧ (K = n' - lim ∨ K = p0.rows.length) := by omega
           rw [if_pos ⟨hK0.1, hK0.2.2.1⟩] at hP2
           have hg2 := hfr2.old hsn hg
           obtain ⟨⟨k0, k1, k2, k3⟩, j0, j1, j2, j3⟩ := blk4 hg2
           have hQ2 := Kd.Q_step (Kd.Q_tight rfl hv) (fun k hk hlt => hfr2.block k hlt (hvn k hk.symm))
           obtain ⟨ad2, hadq, hp2⟩ := ptr_at hQ2 (i := 0) (p := p0) rfl
           obtain rfl := Option.some.inj hadq
           rw [Addr.add_zero_] at hp2
           have hw2 : IntKind.i64.wrap (n' - K) = n' - K := by have := HA.out; rw [IntKind.wrap_i64]; omega
           have hw3 : IntKind.i64.wrap (gone' + K) = gone' + K := by have := HA.out; rw [IntKind.wrap_i64]; omega
           have hadn : ad.block ≠ s := (hv.1 ad.block rfl).2
           have hp3 := cell_far_ (cell_far_ hp2 hadn 2 (.int .i64 (n' - K))) hadn 3 (.int .i64 (gone' + K)))
        | (go_at_call 37
           refine (page_len _ p0.ok p0.blk (p0.rows.drop K.toNat) ((hP2.set hsn 2 _).set hsn 3 _)).mono ?_
           rintro e w3 ⟨rfl, hd3⟩
           obtain ⟨m3, rfl⟩ := hd3.out))
      all_goals
        have hall := HA.out
        have hkk := hall.2.2.2.2.2.2.2.2 hlt
        have hne1 : gk - 1 < gk := by simp only [List.length_cons] at hkk; omega
        have hdis : ∀ q ∈ rest, ∀ k, p0.ok k → ¬ q.ok k := (List.pairwise_cons.1 hd).1
        have hfr2b : Fr p0.ok wr w2 := ((Fr.refl p0.ok wr).drewN _).trans hfr2 (fun _ _ h => h)
        have hfr3 : Fr ok wr w2 := (hfr2b.mono (fun k hk => (hP0n k hk).1))
        have hfr4 : Fr ok W w2 := (hall.2.2.2.2.2.2.2.1).trans hfr3 (fun _ _ h => h)
        have hrest : ∀ q ∈ rest, PageAt w2 q.ok q.blk q.rows := fun q hq => (hp q (by simp [hq])).1.fr hfr2b (fun k hk hk2 => hdis q hq k hk2 hk)
        have hQ3 := Kd.Q_mono (ok' := fun k => ok k ∧ k ≠ s) hQ2 (fun k hk => hv.1 k hk.symm)
        have hQd := Kd.Q_drop (k := 1) hQ3 (by simp)
        simp only [List.map_cons, List.drop_succ_cons, List.drop_zero, List.length_cons, Nat.add_sub_cancel] at hQd
        have hz1 : (Kd.raw 1).sz = 1 := rfl
        have hlow : Fr ok W (((w2.setCell ⟨s, 2, none⟩ (.int .i64 (n' - K))).setCell ⟨s, 3, none⟩ (.int .i64 (gone' + K))).drewN m3) := ((hfr4.setCell (p := ⟨s, 2, none⟩) hs0 _).setCell (p := ⟨s, 3, none⟩) hs0 _).drewN m3
        have hblk := blk_drewN (blk_set (blk_set hg2 2 (.int .i64 (n' - K))) 3 (.int .i64 (gone' + K))) m3
        have hoth : ∀ k, k ≠ s → (((w2.setCell ⟨s, 2, none⟩ (.int .i64 (n' - K))).setCell ⟨s, 3, none⟩ (.int .i64 (gone' + K))).drewN m3).heap[k]? = w2.heap[k]? := fun k hk => (Below.heap_setCell _ ⟨s, 3, none⟩ _ k hk).trans (Below.heap_setCell _ ⟨s, 2, none⟩ _ k hk)
      · rename_i hz0
        have hz : p0.rows.length - K.toNat = 0 := by simpa using hz0
        have hcut := cut_inv (ok := ok) (gk := gk) hall.2.1 hall.2.2.1 hall.2.2.2.1 hall.2.2.2.2.1 hall.2.2.2.2.2.2.1 hkk hK0 rest (.inl ⟨rfl, hz⟩)
        go_roundg (gk - 1)
        case measure => exact hne1
        case rel =>
          refine ⟨rest, n' - K, gone' + K, ⟨StoreAt.rebuild (w2 := w2) hs0 ((blk_set hblk 1 _).trans rfl) (fun k hk => (Below.heap_setCell _ ⟨s, 1, none⟩ _ k hk).trans (hoth k hk)) (v := .slice (some ad) rest.length 0) ?_ (fun q hq => ⟨hrest q hq, fun k hk => (hp q (by simp [hq])).2 k hk⟩) (List.pairwise_cons.1 hd).2, hcut.1, hcut.2.1, hcut.2.2.1, hcut.2.2.2.1, hcut.2.2.2.2.1, hcut.2.2.2.2.2.1, hlow.setCell (p := ⟨s, 1, none⟩) hs0 _, hcut.2.2.2.2.2.2⟩⟩
          have hc1 : c = 1 := by first | assumption | omega
          subst hc1
          exact hQd
      · rename_i hz0
        have hz : p0.rows.length - K.toNat = 0 := by simpa using hz0
        have hcut := cut_inv (ok := ok) (gk := gk) hall.2.1 hall.2.2.1 hall.2.2.2.1 hall.2.2.2.2.1 hall.2.2.2.2.2.2.1 hkk hK0 rest (.inl ⟨rfl, hz⟩)
        go_roundg (gk - 1)
        case measure => exact hne1
        case rel =>
          refine ⟨rest, n' - K, gone' + K, ⟨StoreAt.rebuild (w2 := w2) hs0 ((blk_set hblk 1 _).trans rfl) (fun k hk => (Below.heap_setCell _ ⟨s, 1, none⟩ _ k hk).trans (hoth k hk)) (v := .slice (some ⟨ad.block, ad.off + 1, none⟩) rest.length (c - 1)) ?_ (fun q hq => ⟨hrest q hq, fun k hk => (hp q (by simp [hq])).2 k hk⟩) (List.pairwise_cons.1 hd).2, hcut.1, hcut.2.1, hcut.2.2.1, hcut.2.2.2.1, hcut.2.2.2.2.1, hcut.2.2.2.2.2.1, hlow.setCell (p := ⟨s, 1, none⟩) hs0 _, hcut.2.2.2.2.2.2⟩⟩
          rw [if_neg (by first | assumption | omega)] at hQd
          exact hQd
      · rename_i hz0
        have hz : p0.rows.length - K.toNat ≠ 0 := by simpa using hz0
        have hcut := cut_inv (ok := ok) (gk := gk) hall.2.1 hall.2.2.1 hall.2.2.2.1 hall.2.2.2.2.1 hall.2.2.2.2.2.2.1 hkk hK0 ({ p0 with rows := p0.rows.drop K.toNat } :: rest) (.inr ⟨rfl, hz⟩)
        go_roundg (gk - 1)
        case measure => exact hne1
        case rel =>
          refine ⟨{ p0 with rows := p0.rows.drop K.toNat } :: rest, n' - K, gone' + K, ⟨StoreAt.rebuild (w2 := w2) hs0 (hblk.trans rfl) hoth (v := .slice (some ad) (rest.length + 1) c) hQ3 (fun q hq => ?_) ?_, hcut.1, hcut.2.1, hcut.2.2.1, hcut.2.2.2.1, hcut.2.2.2.2.1, hcut.2.2.2.2.2.1, hlow, hcut.2.2.2.2.2.2⟩⟩
          · rcases List.mem_cons.1 hq with rfl | hq
            · exact ⟨hP2, hP0n⟩
            · exact ⟨hrest q hq, fun k hk => (hp q (by simp [hq])).2 k hk⟩
          · exact List.pairwise_cons.2 ⟨hdis, (List.pairwise_cons.1 hd).2⟩
    · go_wp2
      go_quiet (fail)
      go_wp2
      have hall := HA.out
      go_end0
      exact ⟨rfl, ps', n', gone', hall.1.step (fun _ _ _ => rfl), hall.2.1, hall.2.2.1, by have := HX.out; omega, hall.2.2.2.2.2.2.1, hall.2.2.2.2.2.2.2.1.drewN _⟩
end Go.Proofs.Ytkigdcihhlkkdaa.P
