/- own texts of this session, put together -/
import Derived.Test.YtkigdcihhlkkdaaTZ0
import Derived.Deep.RegionLaw
import Derived.BigRegion
import Derived.StillTailTactics
import Derived.RangeFuncNested
import Derived.RangeFuncBound
import Derived.RangeFuncCalls
import Derived.RangeFuncLeaves
import Derived.Shelf.Abstract
import Derived.Shelf.RegionOpen
import Derived.OwnWalkIn
import Derived.TacticsInMore
import Derived.LoopNIn
import Derived.LoopIn
section
set_option linter.unusedVariables false
set_option linter.unusedSimpArgs false
namespace Go.Proofs.Ytkigdcihhlkkdaa.P
open Go.RowKit Go.Proofs.YtkigdcihhlkkdaaW.PrintWords Go.Proofs.YtkigdcihhlkkdaaW.PrintLast Go.Proofs.YtkigdcihhlkkdaaW.PrintMore
theorem mid_append : ∀ (l : List Pg) (q : Pg), mid (l ++ [q]) ↔ ∀ p ∈ l, p.rows.length = 16
  | [], q => by simp [mid]
  | [a], q => by simp [mid]
  | a :: b :: l, q => by
    have ih := mid_append (b :: l) q
    simp only [List.cons_append, mid, List.mem_cons, forall_eq_or_imp] at ih ⊢
    rw [ih]
theorem len_le : ∀ {ps : List Pg}, (∀ p ∈ ps, p.rows ≠ []) → ps.length ≤ (flat ps).length
  | [], _ => Nat.zero_le _
  | p :: t, h => by
    have ih := len_le (ps := t) (fun q hq => h q (by simp [hq]))
    have h1 : 0 < p.rows.length := List.length_pos_iff.2 (h p (by simp))
    rw [flat_cons, List.length_append, List.length_cons]
    omega
theorem flat_append (a b : List Pg) : flat (a ++ b) = flat a ++ flat b := by simp [flat]
theorem Inv.last {init : List Pg} {pl : Pg} (h : Inv (init ++ [pl])) : ∀ p ∈ init.tail, p.rows.length = 16 := by
  cases init with
  | nil => intro p hp; simp at hp
  | cons a t => exact (mid_append t pl).1 h.full
structure Room (wc W : World) (ok : Nat → Prop) (s : Nat) (lim n gone : Int) (ps init : List Pg) (pl : Pg) (box : Obj) : Prop where
  at_ : StoreAt wc (fun k => ok k ∨ W.heap.size ≤ k) s lim n gone (init ++ [pl])
  room : pl.rows.length < 16
  same : flat (init ++ [pl]) = flat ps
  all_ : ∀ p ∈ init, p.rows ≠ [] ∧ p.rows.length ≤ 16
  full : ∀ p ∈ init.tail, p.rows.length = 16
  fr : Fr ok W wc
  box : wc.heap[W.heap.size]? = some box
  lt_ : ∀ p ∈ init ++ [pl], ∀ k, p.ok k → k < wc.heap.size
def Full (ps : List Pg) : Prop := ps = [] ∨ ∃ init pl, ps = init ++ [pl] ∧ pl.rows.length = 16
theorem info49 : (Try.prog.info? 49).map (fun i => (i.zero, i.size, i.bytes)) = some (some (.pointer none), 1, 8) := by kernel_rfl
set_option maxHeartbeats 4000000 in
set_option maxRecDepth 100000 in
theorem store_add_no (W : World) (ok : Nat → Prop) (s : Nat) (lim n gone : Int) (ps : List Pg) (A : Option Addr) (c : Nat) (l : List S45) (wr : Bool) (h : StoreAt W ok s lim n gone ps) (hC : Kd.C k45 W A l.length l)
    (hmay : ∀ w, Kd.C k45 w A l.length l → Calls Try.prog 26 #[.agg #[.slice A l.length c, .bool wr]] w fun e w' => e = .returned (.bool false) ∧ Below w.heap.size w w') :
    Calls Try.prog 40 #[.pointer (some ⟨s, 0, none⟩), .agg #[.slice A l.length c, .bool wr]] W fun e w' => e = .returned (.bool false) ∧ Below W.heap.size W w' := by
  have hb0 : Below W.heap.size W (W.alloc (.cells #[.slice A l.length c, .bool wr] 31)) := below_alloc (Below.refl _ _) _
  have hC1 := Kd.C_below hC hb0
  go_enter Try.func40, Try.ntmps40
  go_wp2_with (first
    | (go_at_call 26; refine (hmay _ hC1).mono ?_; rintro e w1 ⟨rfl, hb1⟩)
    | fail)
  all_goals go_ret
  all_goals exact ⟨rfl, hb0.trans (hb1.mono hb0.size)⟩
theorem room_new {W w1 w2 w3 : World} {ok : Nat → Prop} {s gN c0 c3 : Nat} {lim n gone : Int} {ps : List Pg} {A0 A3 : Option Addr} {box : Obj} (hs0 : ok s) (hsltW : s < W.heap.size) (hb2 : Below W.heap.size W w1) (hg : w1.heap[s]? = some (.cells #[.int .i64 lim, .slice A0 ps.length c0, .int .i64 n, .int .i64 gone] 91 (0, 0)))
    (hv : (Kd.raw 1).Q 49 w1 0 (fun k => ok k ∧ k ≠ s) (.slice A0 ps.length c0) (ps.map Pg.cell)) (hp : ∀ p ∈ ps, PageAt w1 p.ok p.blk p.rows ∧ ∀ k, p.ok k → ok k ∧ k ≠ s ∧ some k ≠ (Value.slice A0 ps.length c0).ownBlock) (hd : ps.Pairwise (fun p q => ∀ k, p.ok k → ¬ q.ok k)) (hbd : ∀ p ∈ ps, ∀ k, p.ok k → k < W.heap.size)
    (hvlt : ∀ k, (Value.slice A0 ps.length c0).ownBlock = some k → k < W.heap.size) (hi : Inv ps) (hfull : Full ps) (hbN : Below w1.heap.size w1 w2) (hPN : PageAt w2 (fun k => w1.heap.size ≤ k) gN []) (hg2 : w2.heap[s]? = some (.cells #[.int .i64 lim, .slice A0 ps.length c0, .int .i64 n, .int .i64 gone] 91 (0, 0)))
    (hgr : w2.grownBy w3 (Value.slice A0 ps.length c0).ownBlock) (hat : (Value.slice A3 (ps.map Pg.cell ++ [[Value.pointer (some ⟨gN, 0, none⟩)]]).length c3).ownBlock = (Value.slice A0 ps.length c0).ownBlock ∨ ∃ b, (Value.slice A3 (ps.map Pg.cell ++ [[Value.pointer (some ⟨gN, 0, none⟩)]]).length c3).ownBlock = some b ∧ w2.heap.size ≤ b)
    (hQ : (Kd.raw 1).Q 49 w3 0 (fun k => (ok k ∨ W.heap.size ≤ k) ∧ k ≠ s) (.slice A3 (ps.map Pg.cell ++ [[Value.pointer (some ⟨gN, 0, none⟩)]]).length c3) (ps.map Pg.cell ++ [[Value.pointer (some ⟨gN, 0, none⟩)]])) (hbox : w1.heap[W.heap.size]? = some box) (hlt1 : W.heap.size < w1.heap.size) :
    Room (w3.setCell ⟨s, 1, none⟩ (.slice A3 (ps.length + 1) c3)) W ok s lim n gone ps ps ⟨gN, fun k => w1.heap.size ≤ k ∧ k < w2.heap.size, []⟩ box := by
  have hgne : some s ≠ (Value.slice A0 ps.length c0).ownBlock := fun he => (hv.1 s he.symm).2 rfl
  have hg3 := blk_grown hg2 hgr hgne
  have hlen : (ps.map Pg.cell ++ [[Value.pointer (some ⟨gN, 0, none⟩)]]).length = ps.length + 1 := by simp
  rw [hlen] at hQ hat
  have hfr2 : Fr ok W w2 := Fr.of_below (hb2.trans (hbN.mono hb2.size))
  have hfr3 : Fr ok W w3 := hfr2.trans (S1 := ok) (Fr.of_grown hgr (fun k hk => (hv.1 k hk).1)) (fun _ _ h => h)
  refine ⟨⟨.inl hs0, .slice A3 (ps.length + 1) c3, (blk_set hg3 1 _).trans rfl, Kd.Q_step (by rw [List.map_append]; exact hQ) (fun k hk _ => Below.heap_setCell w3 ⟨s, 1, none⟩ _ k hk.2), fun q hq => ?_, ?_⟩, ?_, by rw [flat_append]; simp [flat], fun q hq => ⟨hi.some_ q hq, hi.most q hq⟩, ?_, hfr3.setCell (p := ⟨s, 1, none⟩) hs0 _, ?_, ?_⟩
  · rcases List.mem_append.1 hq with hq | hq
    · obtain ⟨hP, hn⟩ := hp q hq
      have hP3 : PageAt w3 q.ok q.blk q.rows := (hP.below hbN).step (fun k hk hlt => hgr.block k hlt (hn k hk).2.2)
      refine ⟨hP3.set (fun hk => (hn s hk).2.1 rfl) 1 _, fun k hk => ⟨.inl (hn k hk).1, (hn k hk).2.1, ?_⟩⟩
      rcases hat with hat | ⟨b, hb, hle⟩
      · rw [hat]; exact (hn k hk).2.2
      · rw [hb]
        intro he
        injection he with he
        have := hbd q hq k hk
        have := hfr2.size
        omega
    · simp only [List.mem_singleton] at hq
      subst hq
      have hP3 : PageAt w3 (fun k => w1.heap.size ≤ k ∧ k < w2.heap.size) gN [] := hPN.bound.step (fun k hk hlt => hgr.block k hlt (fun he => by have := hvlt k he.symm; have := hk.1; omega))
      refine ⟨hP3.set (fun hk => by have := hk.1; have := blk_lt hg; omega) 1 _, fun k hk => ⟨.inr (by have := hk.1; omega), fun he => by have := hk.1; omega, ?_⟩⟩
      rcases hat with hat | ⟨b, hb, hle⟩
      · rw [hat]
        intro he
        have := hvlt k he.symm
        have := hk.1
        omega
      · rw [hb]
        intro he
        injection he with he
        have := hk.2
        omega
  · refine List.pairwise_append.2 ⟨hd, List.pairwise_singleton _ _, fun a ha b hb k hk hk2 => ?_⟩
    simp only [List.mem_singleton] at hb
    subst hb
    have := hbd a ha k hk
    have := hk2.1
    omega
  · show 0 < 16
    omega
  · rcases hfull with rfl | ⟨init, pl, rfl, h16⟩
    · intro p hp; simp at hp
    · cases init with
      | nil => intro p hp; simp at hp
      | cons a t =>
        intro p hp
        simp only [List.cons_append, List.tail_cons, List.mem_append, List.mem_singleton] at hp
        rcases hp with hp | rfl
        · exact hi.last p hp
        · exact h16
  · have hne : some W.heap.size ≠ (Value.slice A0 ps.length c0).ownBlock := fun he => by have := hvlt _ he.symm; omega
    have h3 := blk_grown (blk_below hbox hbN) hgr hne
    rw [Below.heap_setCell w3 ⟨s, 1, none⟩ _ W.heap.size (by show W.heap.size ≠ s; omega)]
    exact h3
  · intro p hpm k hk
    have e1 := hgr.size
    have e2 : (w3.setCell ⟨s, 1, none⟩ (.slice A3 (ps.length + 1) c3)).heap.size = w3.heap.size := by simp [World.setCell]
    have e3 := hbN.size
    rw [e2]
    rcases List.mem_append.1 hpm with hpm | hpm
    · have := hbd p hpm k hk
      omega
    · simp only [List.mem_singleton] at hpm
      subst hpm
      have := hk.2
      omega
theorem room_old {W w1 : World} {ok : Nat → Prop} {s c0 : Nat} {lim n gone : Int} {ps init : List Pg} {pl : Pg} {A0 : Option Addr} {box : Obj} (hs0 : ok s) (hb2 : Below W.heap.size W w1) (hg : w1.heap[s]? = some (.cells #[.int .i64 lim, .slice A0 ps.length c0, .int .i64 n, .int .i64 gone] 91 (0, 0)))
    (hv : (Kd.raw 1).Q 49 w1 0 (fun k => ok k ∧ k ≠ s) (.slice A0 ps.length c0) (ps.map Pg.cell)) (hp : ∀ p ∈ ps, PageAt w1 p.ok p.blk p.rows ∧ ∀ k, p.ok k → ok k ∧ k ≠ s ∧ some k ≠ (Value.slice A0 ps.length c0).ownBlock) (hd : ps.Pairwise (fun p q => ∀ k, p.ok k → ¬ q.ok k)) (hi : Inv ps) (hps : ps = init ++ [pl]) (hnf : pl.rows.length ≠ 16) (hbd : ∀ p ∈ ps, ∀ k, p.ok k → k < W.heap.size) (hbox : w1.heap[W.heap.size]? = some box) (m : Nat) :
    Room (w1.drewN m) W ok s lim n gone ps init pl box := by
  have hS : StoreAt w1 ok s lim n gone ps := ⟨hs0, _, hg, hv, hp, hd⟩
  have hS2 : StoreAt (w1.drewN m) (fun k => ok k ∨ W.heap.size ≤ k) s lim n gone ps := StoreAt.mono (StoreAt.step (W' := w1.drewN m) hS (fun _ _ _ => rfl)) (fun k hk => Or.inl hk)
  subst hps
  refine ⟨hS2, ?_, rfl, fun p hp => ⟨hi.some_ p (by simp [hp]), hi.most p (by simp [hp])⟩, hi.last, (Fr.of_below hb2).drewN m, hbox, fun p hpm k hk => Nat.lt_of_lt_of_le (hbd p hpm k hk) hb2.size⟩
  have := hi.most pl (by simp)
  omega
theorem room_done {W wc w4 : World} {ok : Nat → Prop} {s : Nat} {lim n gone : Int} {ps init : List Pg} {pl : Pg} {box : Obj} {x : List Int} (hs0' : ok s) (hR : Room wc W ok s lim n gone ps init pl box)
    (hP4 : PageAt w4 (fun k => pl.ok k ∨ wc.heap.size ≤ k) pl.blk (pl.rows ++ [x])) (hf4 : Fr pl.ok wc w4) :
    ∃ ps', StoreAt (w4.setCell ⟨s, 2, none⟩ (.int .i64 (n + 1))) (fun k => ok k ∨ W.heap.size ≤ k) s lim (n + 1) gone ps' ∧ Inv ps' ∧ flat ps' = flat ps ++ [x] ∧ Fr ok W (w4.setCell ⟨s, 2, none⟩ (.int .i64 (n + 1))) := by
  obtain ⟨hs0, v, hg, hv, hp, hd⟩ := hR.at_
  have hplm := hp pl (by simp)
  have hsn : ¬ pl.ok s := fun hk => (hplm.2 s hk).2.1 rfl
  have hg4 := hf4.old hsn hg
  have hWc := hR.fr.size
  have hscW : s < wc.heap.size := blk_lt hg
  refine ⟨init ++ [⟨pl.blk, fun k => (pl.ok k ∨ wc.heap.size ≤ k) ∧ k < w4.heap.size, pl.rows ++ [x]⟩], ⟨hs0, v, (blk_set hg4 2 _).trans rfl, ?_, fun q hq => ?_, ?_⟩, ⟨fun p hpm => ?_, fun p hpm => ?_, ?_⟩, ?_, ?_⟩
  · have e : (init ++ [(⟨pl.blk, fun k => (pl.ok k ∨ wc.heap.size ≤ k) ∧ k < w4.heap.size, pl.rows ++ [x]⟩ : Pg)]).map Pg.cell = (init ++ [pl]).map Pg.cell := by simp [Pg.cell]
    rw [e]
    have h1 := Kd.Q_step (Kd.Q_tight rfl hv) (fun k hk hlt => hf4.block k hlt (fun hk2 => (hplm.2 k hk2).2.2 hk))
    exact Kd.Q_step (Kd.Q_mono h1 (fun k hk => hv.1 k hk.symm)) (fun k hk _ => Below.heap_setCell w4 ⟨s, 2, none⟩ _ k hk.2)
  · rcases List.mem_append.1 hq with hq | hq
    · obtain ⟨hP, hn⟩ := hp q (by simp [hq])
      have hdis := (List.pairwise_append.1 hd).2.2 q hq pl (by simp)
      exact ⟨(hP.fr hf4 (fun k hk hk2 => hdis k hk hk2)).set (fun hk => (hn s hk).2.1 rfl) 2 _, hn⟩
    · simp only [List.mem_singleton] at hq
      subst hq
      have hns : ¬ ((pl.ok s ∨ wc.heap.size ≤ s) ∧ s < w4.heap.size) := fun hk => hk.1.elim hsn (fun h => by omega)
      refine ⟨hP4.bound.set hns 2 _, fun k hk => ?_⟩
      rcases hk.1 with hk | hk
      · exact hplm.2 k hk
      · refine ⟨.inr (by omega), by omega, fun he => ?_⟩
        have := Kd.Q_lt hv k he.symm
        omega
  · obtain ⟨d1, d2, d3⟩ := List.pairwise_append.1 hd
    refine List.pairwise_append.2 ⟨d1, List.pairwise_singleton _ _, fun a ha b hb k hk hk2 => ?_⟩
    simp only [List.mem_singleton] at hb
    subst hb
    rcases hk2.1 with hk2 | hk2
    · exact d3 a ha pl (by simp) k hk hk2
    · have := hR.lt_ a (by simp [ha]) k hk
      omega
  · rcases List.mem_append.1 hpm with hpm | hpm
    · exact (hR.all_ p hpm).1
    · simp only [List.mem_singleton] at hpm
      subst hpm
      simp
  · rcases List.mem_append.1 hpm with hpm | hpm
    · exact (hR.all_ p hpm).2
    · simp only [List.mem_singleton] at hpm
      subst hpm
      have := hR.room
      simp only [List.length_append, List.length_singleton]
      omega
  · have hfull := hR.full
    cases init with
    | nil => trivial
    | cons a t => exact (mid_append t _).2 hfull
  · have := hR.same
    rw [flat_append] at this ⊢
    rw [← this]
    simp [flat]
  · refine Fr.setCell ?_ ?_ _
    · exact hR.fr.trans hf4 (fun i hi hk => ((hplm.2 i hk).1).elim id (fun h => by omega))
    · exact hs0'
set_option maxHeartbeats 4000000 in
set_option maxRecDepth 100000 in
theorem store_add_b (W : World) (ok : Nat → Prop) (s : Nat) (lim n gone : Int) (ps : List Pg) (A : Option Addr) (c : Nat) (l : List S45) (wr : Bool) (x : List Int) (h : StoreAt W ok s lim n gone ps) (hbd : ∀ p ∈ ps, ∀ k, p.ok k → k < W.heap.size) (hi : Inv ps) (hn : n = (flat ps).length) (hn2 : n ≤ 100000000) (hl : 0 ≤ lim) (hg0 : 0 ≤ gone) (hg1 : gone ≤ 100000000)
    (okc : Nat → Prop) (hF : Kd.F k45 W okc A l.length l) (hdj : ∀ k, okc k → ¬ ok k)
    (hmay : ∀ w, Kd.C k45 w A l.length l → Calls Try.prog 26 #[.agg #[.slice A l.length c, .bool wr]] w fun e w' => e = .returned (.bool true) ∧ Below w.heap.size w w')
    (hput : ∀ w, Kd.C k45 w A l.length l → Calls Try.prog 24 #[.agg #[.slice A l.length c, .bool wr]] w fun e w' => ∃ v0_ : Value, e = .returned (.tuple #[v0_, .bool true]) ∧ Kd.R (Kd.int .u8) 5 w' w.heap.size (fun _ => True) v0_ x ∧ Below w.heap.size w w') :
    Calls Try.prog 40 #[.pointer (some ⟨s, 0, none⟩), .agg #[.slice A l.length c, .bool wr]] W fun e w' => e = .returned (.bool true) ∧
      ∃ ps' n' gone', StoreAt w' (fun k => ok k ∨ W.heap.size ≤ k) s lim n' gone' ps' ∧ Inv ps' ∧ flat ps' = (flat ps ++ [x]).drop (n + 1 - n').toNat ∧ n' = min (n + 1) lim ∧ gone' + n' = gone + n + 1 ∧ Fr ok W w' := by
  have hb0 : Below W.heap.size W (W.alloc (.cells #[.slice A l.length c, .bool wr] 31)) := below_alloc (Below.refl _ _) _
  have hC1 := Kd.C_below (Kd.F_now hF) hb0
  have hbox := blk_new W (.cells #[.slice A l.length c, .bool wr] 31)
  have hInfo := Aside0.mk (And.intro hi hn)
  clear hi hn
  have hpl : ps.length ≤ 100000000 := by have h1 := len_le hInfo.out.1.some_; have h2 := hInfo.out.2; omega
  have hsltW : s < W.heap.size := h.lt
  obtain ⟨hs0, v, hgW, hvW, hpW, hd⟩ := h
  have hvlt := Kd.Q_lt hvW
  go_enter Try.func40, Try.ntmps40
  go_upto_if 33 with (first
      | (go_at_call 26; refine (hmay _ hC1).mono ?_; rintro e w1 ⟨rfl, hb1⟩
         have hb2 : Below W.heap.size W w1 := hb0.trans (hb1.mono hb0.size)
         have hbox1 := blk_below hbox hb1
         have hg := blk_below hgW hb2
         have hv := Kd.Q_below hvW hb2
         have hp : ∀ p ∈ ps, PageAt w1 p.ok p.blk p.rows ∧ ∀ k, p.ok k → ok k ∧ k ≠ s ∧ some k ≠ v.ownBlock := fun p hpm => ⟨(hpW p hpm).1.below hb2, (hpW p hpm).2⟩
         obtain ⟨A0, c0, rfl, hc0⟩ := Kd.Q_slice hv
         rw [List.length_map] at hg hv hc0 hp hvlt
         obtain ⟨⟨h0, h1, h2, h3⟩, f0, f1, f2, f3⟩ := blk4 hg)
      | fail)
  go_cut [3, 33] (fun v3 v33 wc => v3 = .pointer (some ⟨W.heap.size, 0, none⟩) ∧ (∃ m, wc = w1.drewN m) ∧ ((v33 = .bool true ∧ Full ps) ∨ (v33 = .bool false ∧ ∃ init pl, ps = init ++ [pl] ∧ pl.rows.length ≠ 16)))
  case first =>
    rcases List.eq_nil_or_concat ps with hps | ⟨init, pl, hps⟩
    · have hz : ps.length = 0 := by rw [hps]; rfl
      rw [hz] at hg hv hc0 h1
      go_quiet (fail)
      go_wp2
      go_meet
      case rel => exact ⟨rfl, ⟨_, rfl⟩, .inl ⟨rfl, .inl hps⟩⟩
    · rw [List.concat_eq_append] at hps
      have hlp : ps.length = init.length + 1 := by rw [hps]; simp
      have hplm := hp pl (by rw [hps]; simp)
      obtain ⟨ad, rfl, hpc⟩ := ptr_at hv (i := init.length) (p := pl) (by rw [hps]; simp)
      have hz : decide ((init.length : Int) + 1 = 0) = false := decide_eq_false (by omega)
      have hz2 : ((init.length : Int) + 1 == 0) = false := beq_eq_false_iff_ne.2 (by omega)
      have hw1 : IntKind.i64.wrap (init.length : Int) = init.length := by rw [IntKind.wrap_i64]; omega
      have hw2 : (init.length : Int) < (init.length : Int) + 1 := by omega
      have hw3 : (0 : Int) ≤ (init.length : Int) := by omega
      go_quiet ((go_at_call 37; exact Calls.quiet_of ((page_len _ pl.ok pl.blk pl.rows (hplm.1.drewN _)).mono (fun e w1 h => ⟨h.1, h.2.out⟩))))
      go_wp2
      go_meet
      case rel =>
        refine ⟨rfl, ⟨_, rfl⟩, ?_⟩
        by_cases h16 : pl.rows.length = 16
        · exact .inl ⟨by simp [h16], .inr ⟨init, pl, hps, h16⟩⟩
        · exact .inr ⟨by simp; omega, init, pl, hps, h16⟩
  case rest =>
    obtain ⟨rfl, ⟨m, rfl⟩, hcase⟩ := hcut
    have hlt1 : W.heap.size < w1.heap.size := blk_lt hbox1
    go_upto_if 33 with fail
    go_cut [3] (fun v3 wc => v3 = .pointer (some ⟨W.heap.size, 0, none⟩) ∧ ∃ (init : List Pg) (pl : Pg), Room wc W ok s lim n gone ps init pl (.cells #[.slice A l.length c, .bool wr] 31 (0, 0)))
    case first =>
      rcases hcase with ⟨rfl, hfull⟩ | ⟨rfl, init, pl, hps, hnf⟩
      · go_wp2
        have hQ1 : (Kd.raw 1).Q 49 w1 0 (fun k => (ok k ∨ W.heap.size ≤ k) ∧ k ≠ s) (.slice A0 ps.length c0) (ps.map Pg.cell) := Kd.Q_mono hv (fun k hk => ⟨.inl hk.1, hk.2⟩)
        have hnew : ∀ m, Calls Try.prog 33 #[] (w1.drewN m) fun e w2 => ∃ gN, e = .returned (.pointer (some ⟨gN, 0, none⟩)) ∧ Below w1.heap.size w1 w2 ∧ w1.heap.size ≤ gN ∧ PageAt w2 (fun k => w1.heap.size ≤ k) gN [] ∧ w2.heap[s]? = some (.cells #[.int .i64 lim, .slice A0 ps.length c0, .int .i64 n, .int .i64 gone] 91 (0, 0)) ∧
            (Kd.raw 1).Q 49 w2 0 (fun k => (ok k ∨ W.heap.size ≤ k) ∧ k ≠ s) (.slice A0 ps.length c0) (ps.map Pg.cell) ∧ W.heap.size ≤ w2.heap.size := by
          intro m
          refine (page_new _).mono ?_
          rintro e w2 ⟨gN, rfl, hgN, hPN, hbN⟩
          have hbN1 : Below w1.heap.size w1 w2 := (pw_below_drewN (Below.refl _ w1) m).trans hbN
          exact ⟨gN, rfl, hbN1, hgN, hPN, blk_below hg hbN1, Kd.Q_below hQ1 hbN1, Nat.le_trans hb2.size hbN1.size⟩
        go_region_law (first
          | (go_simp; go_at_call 33; refine (hnew _).mono ?_; rintro e w2 ⟨gN, rfl, hbN1, hgN1, hPN1, hg2, hQ2, hsW2⟩; obtain ⟨⟨k0, k1, k2, k3⟩, j0, j1, j2, j3⟩ := blk4 hg2; obtain ⟨⟨q0, q1, q2, q3⟩, r0, r1, r2, r3⟩ := blk4 (blk_alloc hg2 (.cells #[.pointer (some ⟨gN, 0, none⟩)] 49)))
          | (refine Kd.Q_append_step (Kd.raw 1) (w0 := w2) (W := w2) 0 (by rfl) (.tmp 38) (.tmp 40) 89 49 (.pointer none) 8 (by rfl) Try.underlying89 info49 rfl (by decide) (by decide) (.slice A0 ps.length c0) (ps.map Pg.cell) [.pointer (some ⟨gN, 0, none⟩)] [.pointer (some ⟨gN, 0, none⟩)] (fun k => (ok k ∨ W.heap.size ≤ k) ∧ k ≠ s) (fun _ => False) (by rfl) (by rfl) ⟨rfl, rfl, by simp [Value.oneCell']⟩ (fun _ hk => hk.elim) (fun k hk => ⟨.inr (by omega), by omega⟩) hQ2 (Below.refl _ _) (Nat.zero_le _) (by rw [List.length_map]; omega) ?_
             intro v1 w3 hQ3 hb3 hgr3 hat3
             have hgne : some s ≠ (Value.slice A0 ps.length c0).ownBlock := fun he => (hv.1 s he.symm).2 rfl
             have hg3 := blk_grown hg2 hgr3 hgne
             obtain ⟨A3, c3, rfl, hc3⟩ := Kd.Q_slice hQ3
             obtain ⟨⟨m0, m1, m2, m3⟩, n0, n1, n2, n3⟩ := blk4 hg3))
        all_goals
          (try go_wp2)
          go_meet
          case rel =>
            exact ⟨rfl, ps, _, room_new hs0 hsltW hb2 hg hv hp hd hbd hvlt hInfo.out.1 hfull hbN1 hPN1 hg2 hgr3 hat3 hQ3 hbox1 hlt1⟩
      · go_wp2
        go_meet
        case rel => exact ⟨rfl, init, pl, room_old hs0 hb2 hg hv hp hd hInfo.out.1 hps hnf hbd hbox1 m⟩
    case rest =>
      obtain ⟨rfl, init, pl, hR⟩ := hcut
      obtain ⟨_, v2, hg2, hv2, hp2, hd2⟩ := hR.at_
      obtain ⟨A2, c2, rfl, hc2⟩ := Kd.Q_slice hv2
      have hlm : ((init ++ [pl]).map Pg.cell).length = init.length + 1 := by simp
      rw [hlm] at hg2 hv2 hc2 hp2
      obtain ⟨⟨x0, x1, x2, x3⟩, y0, y1, y2, y3⟩ := blk4 hg2
      obtain ⟨ad2, rfl, hpc2⟩ := ptr_at hv2 (i := init.length) (p := pl) (by simp)
      obtain ⟨b0, b1, b2, b3⟩ := blk2 hR.box
      have hw1 : IntKind.i64.wrap (init.length : Int) = init.length := by have : init.length ≤ 100000000 := by have h1 := len_le (fun p hp => (hR.all_ p hp).1); have h2 := hInfo.out.2; have h3 := congrArg List.length hR.same; rw [flat_append, List.length_append] at h3; omega
                                                                          rw [IntKind.wrap_i64]; omega
      have hw2 : (init.length : Int) < (init.length : Int) + 1 := by omega
      have hw3 : (0 : Int) ≤ (init.length : Int) := by omega
      go_wp2
      go_still_tail 13, (by kernel_rfl)
      change wpList _ _ _ _ _ wc.drew
      have hplm := hp2 pl (by simp)
      have hsn : ¬ pl.ok s := fun hk => (hplm.2 s hk).2.1 rfl
      have hP2 : PageAt wc.drew pl.ok pl.blk pl.rows := hplm.1.step (fun _ _ _ => rfl)
      have hC2 : Kd.C k45 wc.drew A l.length l := Kd.F_now (Kd.F_step hF (fun k hk hlt => hR.fr.drew.block k hlt (hdj k hk)))
      have hwn : IntKind.i64.wrap (n + 1) = n + 1 := by have := hInfo.out.2; rw [IntKind.wrap_i64]; omega
      go_wp2_with (first
        | (go_at_call 34
           refine (page_add _ pl.ok pl.blk pl.rows A c l wr x true hP2 hC2 hput).mono ?_
           rintro e w4 ⟨rfl, hP4, hf4⟩
           rw [addRows, if_pos hR.room, if_pos rfl] at hP4
           have hf4c : Fr pl.ok wc w4 := ((Fr.refl pl.ok wc).drew).trans hf4 (fun _ _ h => h)
           have hg4 := hf4c.old hsn hg2
           obtain ⟨⟨x0, x1, x2, x3⟩, y0, y1, y2, y3⟩ := blk4 hg4)
        | (go_at_call 62
           obtain ⟨ps2, hS5, hI5, hfl5, hfr5⟩ := room_done hs0 hR hP4 hf4c
           refine (store_cuts _ _ s lim (n + 1) gone ps2 hS5 hI5 (by rw [hfl5, List.length_append, List.length_singleton]; have := hInfo.out.2; omega) (by omega) hl hg0 (by omega)).mono ?_
           rintro e w6 ⟨rfl, ps', n', gone', hS6, hI6, hfl6, hn6, hgn6, hfr6⟩)
        | fail)
      go_ret
      refine ⟨rfl, ps', n', gone', hS6, hI6, by rw [hfl6, hfl5], hn6, by omega, hfr5.trans hfr6 (fun i hi h => h.elim id (fun h => by omega))⟩
def bnd (W : World) (p : Pg) : Pg := ⟨p.blk, fun k => p.ok k ∧ k < W.heap.size, p.rows⟩
theorem flat_bnd (W : World) (ps : List Pg) : flat (ps.map (bnd W)) = flat ps := by
  unfold flat
  rw [List.map_map]
  rfl
theorem mid_bnd (W : World) : ∀ (ps : List Pg), mid ps → mid (ps.map (bnd W))
  | [], _ => trivial
  | [_], _ => trivial
  | p :: q :: r, h => ⟨h.1, mid_bnd W (q :: r) h.2⟩
theorem Inv.bnd {W : World} {ps : List Pg} (h : Inv ps) : Inv (ps.map (P.bnd W)) := by
  refine ⟨fun p hp => ?_, fun p hp => ?_, ?_⟩
  · obtain ⟨q, hq, rfl⟩ := List.mem_map.1 hp
    exact h.some_ q hq
  · obtain ⟨q, hq, rfl⟩ := List.mem_map.1 hp
    exact h.most q hq
  · rw [← List.map_tail]
    exact mid_bnd W _ h.full
theorem StoreAt.bnd {W : World} {ok : Nat → Prop} {s : Nat} {lim n gone : Int} {ps : List Pg} (h : StoreAt W ok s lim n gone ps) : StoreAt W ok s lim n gone (ps.map (P.bnd W)) := by
  obtain ⟨h0, v, hg, hv, hp, hd⟩ := h
  refine ⟨h0, v, hg, by rw [List.map_map]; exact hv, fun p hpm => ?_, ?_⟩
  · obtain ⟨q, hq, rfl⟩ := List.mem_map.1 hpm
    exact ⟨(hp q hq).1.bound, fun k hk => (hp q hq).2 k hk.1⟩
  · exact List.pairwise_map.2 (hd.imp (fun {a b} hab k hk hk2 => hab k hk.1 hk2.1))
theorem store_add (W : World) (ok : Nat → Prop) (s : Nat) (lim n gone : Int) (ps : List Pg) (A : Option Addr) (c : Nat) (l : List S45) (wr : Bool) (x : List Int) (h : StoreAt W ok s lim n gone ps) (hi : Inv ps) (hn : n = (flat ps).length) (hn2 : n ≤ 100000000) (hl : 0 ≤ lim) (hg0 : 0 ≤ gone) (hg1 : gone ≤ 100000000)
    (okc : Nat → Prop) (hF : Kd.F k45 W okc A l.length l) (hdj : ∀ k, okc k → ¬ ok k)
    (hmay : ∀ w, Kd.C k45 w A l.length l → Calls Try.prog 26 #[.agg #[.slice A l.length c, .bool wr]] w fun e w' => e = .returned (.bool true) ∧ Below w.heap.size w w')
    (hput : ∀ w, Kd.C k45 w A l.length l → Calls Try.prog 24 #[.agg #[.slice A l.length c, .bool wr]] w fun e w' => ∃ v0_ : Value, e = .returned (.tuple #[v0_, .bool true]) ∧ Kd.R (Kd.int .u8) 5 w' w.heap.size (fun _ => True) v0_ x ∧ Below w.heap.size w w') :
    Calls Try.prog 40 #[.pointer (some ⟨s, 0, none⟩), .agg #[.slice A l.length c, .bool wr]] W fun e w' => e = .returned (.bool true) ∧
      ∃ ps' n' gone', StoreAt w' (fun k => ok k ∨ W.heap.size ≤ k) s lim n' gone' ps' ∧ Inv ps' ∧ flat ps' = (flat ps ++ [x]).drop (n + 1 - n').toNat ∧ n' = min (n + 1) lim ∧ gone' + n' = gone + n + 1 ∧ Fr ok W w' := by
  have h1 := store_add_b W ok s lim n gone (ps.map (bnd W)) A c l wr x h.bnd (fun p hpm k hk => by
    obtain ⟨q, hq, rfl⟩ := List.mem_map.1 hpm
    exact hk.2) hi.bnd (by rw [flat_bnd]; exact hn) hn2 hl hg0 hg1 okc hF hdj hmay hput
  rw [flat_bnd] at h1
  exact h1
end Go.Proofs.Ytkigdcihhlkkdaa.P
end
section
set_option linter.unusedVariables false
set_option linter.unusedSimpArgs false
namespace Go.Proofs.Ytkigdcihhlkkdaa.P
open Go.RowKit Go.Proofs.YtkigdcihhlkkdaaW.PrintWords Go.Proofs.YtkigdcihhlkkdaaW.PrintLast Go.Proofs.YtkigdcihhlkkdaaW.PrintMore
theorem mid_at : ∀ (l : List Pg) (j : Nat) (b : List Int), mid l → (∀ p ∈ l, p.rows.length ≤ 16) → (flat l)[j]? = some b → ∃ p, l[j / 16]? = some p ∧ p.rows[j % 16]? = some b
  | [], j, b, _, _, h => by simp [flat] at h
  | [p], j, b, _, hm, h => by
    have e : flat [p] = p.rows := by simp [flat]
    rw [e] at h
    have hj := (List.getElem?_eq_some_iff.1 h).1
    have := hm p (by simp)
    refine ⟨p, ?_, ?_⟩
    · rw [Nat.div_eq_of_lt (by omega)]; rfl
    · rw [Nat.mod_eq_of_lt (by omega)]; exact h
  | p :: q :: r, j, b, hd, hm, h => by
    rw [flat_cons] at h
    have h16 := hd.1
    by_cases hj : j < 16
    · rw [List.getElem?_append_left (by omega)] at h
      refine ⟨p, ?_, ?_⟩
      · rw [Nat.div_eq_of_lt hj]; rfl
      · rw [Nat.mod_eq_of_lt hj]; exact h
    · rw [List.getElem?_append_right (by omega), h16] at h
      obtain ⟨p', h1, h2⟩ := mid_at (q :: r) (j - 16) b hd.2 (fun p hp => hm p (by simp [hp])) h
      refine ⟨p', ?_, ?_⟩
      · have : j / 16 = (j - 16) / 16 + 1 := by omega
        rw [this, List.getElem?_cons_succ]; exact h1
      · have : j % 16 = (j - 16) % 16 := by omega
        rw [this]; exact h2
set_option maxHeartbeats 4000000 in
set_option maxRecDepth 100000 in
theorem store_at_in (W : World) (ok : Nat → Prop) (s : Nat) (lim n gone : Int) (ps : List Pg) (i : Int) (b : List Int) (cells : List S45) (wr : Bool) (cnt er : Int) (h : StoreAt W ok s lim n gone ps) (hI : Inv ps) (hn : n = (flat ps).length) (hn2 : n ≤ 100000000) (hi : 0 ≤ i) (hb : (flat ps)[i.toNat]? = some b)
    (hget : ∀ w A c, Kd.C (Kd.int .u8) w A b.length b → b.length ≤ c → Calls Try.prog 30 #[.slice A b.length c] w fun e w' => ∃ v0_ : Value, e = .returned (.tuple #[.agg #[v0_, .bool wr], .int .i64 cnt, .int .i64 er]) ∧ Kd.R k45 45 w' w.heap.size (fun _ => True) v0_ cells ∧ Below w.heap.size w w') :
    Calls Try.prog 43 #[.pointer (some ⟨s, 0, none⟩), .int .i64 i] W fun e W' => ∃ v0_ : Value, e = .returned (.tuple #[.agg #[v0_, .bool wr], .bool (decide (er = 0))]) ∧ Kd.R k45 45 W' W.heap.size (fun _ => True) v0_ cells ∧ Below W.heap.size W W' := by
  have hb0 : Below W.heap.size W (W.alloc (.cells #[.slice none 0 0, .bool false] 31)) := below_alloc (Below.refl _ _) _
  have hB0 := blk_new W (.cells #[.slice none 0 0, .bool false] 31)
  have hS0 := h.below hb0
  have hlen := store_len _ ok s lim n gone ps hS0
  have hil : i.toNat < (flat ps).length := (List.getElem?_eq_some_iff.1 hb).1
  have hin : i < n := by omega
  have hInfo := Aside0.mk hn
  clear hn
  have hne : ps ≠ [] := by rintro rfl; simp [flat] at hil
  obtain ⟨p0, rest, rfl⟩ := List.exists_cons_of_ne_nil hne
  obtain ⟨hs0, v, hg, hv, hp, hd⟩ := hS0
  obtain ⟨A0, c0, rfl, hc0⟩ := Kd.Q_slice hv
  have hlm : ((p0 :: rest).map Pg.cell).length = rest.length + 1 := by simp
  rw [hlm] at hg hv hc0 hp
  obtain ⟨⟨x0, x1, x2, x3⟩, y0, y1, y2, y3⟩ := blk4 hg
  obtain ⟨ad, rfl, hpc⟩ := ptr_at hv (i := 0) (p := p0) rfl
  rw [Addr.add_zero_] at hpc
  have hP0 := (hp p0 (by simp)).1
  have hlen0 := fun m => page_len ((W.alloc (.cells #[.slice none 0 0, .bool false] 31)).drewN m) p0.ok p0.blk p0.rows (hP0.step (fun _ _ _ => rfl))
  by_cases hcase : i < p0.rows.length
  · have hb' : p0.rows[i.toNat]? = some b := by rw [flat_cons, List.getElem?_append_left (by omega)] at hb; exact hb
    have hat := fun m => page_at_in ((W.alloc (.cells #[.slice none 0 0, .bool false] 31)).drewN m) p0.ok p0.blk p0.rows i b cells wr cnt er (hP0.step (fun _ _ _ => rfl)) hi hb' hget
    go_enter Try.func43, Try.ntmps43
    go_wp2_with (first
      | (go_at_call 44; refine hlen.mono ?_; rintro e w1 ⟨rfl, hd1⟩; obtain ⟨m1, rfl⟩ := hd1.out)
      | (go_at_call 37; refine (hlen0 _).mono ?_; rintro e w2 ⟨rfl, hd2⟩; obtain ⟨m2, rfl⟩ := hd2.out)
      | (go_at_call 36; refine (hat _).mono ?_; rintro e w3 ⟨v0, rfl, hR0, hb3⟩
         obtain ⟨A2, c2, rfl⟩ := Kd.R_slice hR0
         have hb13 : Below W.heap.size W w3 := (pw_below_drewN hb0 _).trans (hb3.mono (by show W.heap.size ≤ (W.alloc (.cells #[.slice none 0 0, .bool false] 31)).heap.size; simp))
         have hB3 : w3.heap[W.heap.size]? = some (.cells #[.slice none 0 0, .bool false] 31 (0, 0)) := blk_below (w := _) (by exact hB0) hb3
         have hsz3 : ((W.alloc (.cells #[.slice none 0 0, .bool false] 31)).drewN (m1 + m2)).heap.size = W.heap.size + 1 := by show (W.alloc (.cells #[.slice none 0 0, .bool false] 31)).heap.size = _; simp
         obtain ⟨z0, z1, z2, z3⟩ := blk2 hB3)
      | fail)
    refine bodyPost_ret (results_ct rfl _ _ W.heap.size 31 #[.slice A2 cells.length c2, .bool wr] (0, 0) _ rfl ((blk_set (blk_set hB3 0 _) 1 _).trans rfl) Try.underlying31 rfl info31s) rfl ?_
    refine ⟨_, rfl, Kd.R_mono (Kd.R_lower (Kd.R_far (Kd.R_far (Kd.R_bound hR0) (p := ⟨W.heap.size, 0, none⟩) ?h1 _) (p := ⟨W.heap.size, 1, none⟩) ?h2 _) (by omega)) (fun _ _ => trivial), below_set (below_set hb13 (Nat.le_refl _)) (Nat.le_refl _)⟩
    all_goals
      intro k hk
      have := hk.2.1
      show k ≠ W.heap.size
      omega
  · obtain ⟨j, hj⟩ : ∃ j : Nat, i = p0.rows.length + j := ⟨(i - p0.rows.length).toNat, by omega⟩
    have hbr : (flat rest)[j]? = some b := by
      rw [flat_cons, List.getElem?_append_right (by omega)] at hb
      rw [← hb]
      congr 1
      omega
    obtain ⟨p, hpj, hbp⟩ := mid_at rest j b hI.full (fun p hp => hI.most p (by simp [hp])) hbr
    obtain ⟨ad2, had2, hpc2⟩ := ptr_at hv (i := j / 16 + 1) (p := p) (by simpa using hpj)
    obtain rfl := Option.some.inj had2
    have hPp := (hp p (by simp [List.mem_of_getElem? hpj])).1
    have hjl : j / 16 < rest.length := (List.getElem?_eq_some_iff.1 hpj).1
    have hat := fun m => page_at_in ((W.alloc (.cells #[.slice none 0 0, .bool false] 31)).drewN m) p.ok p.blk p.rows ((j : Int) % 16) b cells wr cnt er (hPp.step (fun _ _ _ => rfl)) (by omega) (by rw [show ((j : Int) % 16).toNat = j % 16 by omega]; exact hbp) hget
    have hj2 : j ≤ 100000000 := by omega
    subst hj
    have hw1 : IntKind.i64.wrap ((p0.rows.length : Int) + j - p0.rows.length) = j := by rw [IntKind.wrap_i64]; omega
    rw [Nat.add_comm] at hpc2
    go_enter Try.func43, Try.ntmps43
    go_wp2_with (first
      | (go_at_call 44; refine hlen.mono ?_; rintro e w1 ⟨rfl, hd1⟩; obtain ⟨m1, rfl⟩ := hd1.out)
      | (go_at_call 37; refine (hlen0 _).mono ?_; rintro e w2 ⟨rfl, hd2⟩; obtain ⟨m2, rfl⟩ := hd2.out)
      | (go_at_call 36; refine (hat _).mono ?_; rintro e w3 ⟨v0, rfl, hR0, hb3⟩
         obtain ⟨A2, c2, rfl⟩ := Kd.R_slice hR0
         have hb13 : Below W.heap.size W w3 := (pw_below_drewN hb0 _).trans (hb3.mono (by show W.heap.size ≤ (W.alloc (.cells #[.slice none 0 0, .bool false] 31)).heap.size; simp))
         have hB3 : w3.heap[W.heap.size]? = some (.cells #[.slice none 0 0, .bool false] 31 (0, 0)) := blk_below (w := _) (by exact hB0) hb3
         have hsz3 : ((W.alloc (.cells #[.slice none 0 0, .bool false] 31)).drewN (m1 + m2)).heap.size = W.heap.size + 1 := by show (W.alloc (.cells #[.slice none 0 0, .bool false] 31)).heap.size = _; simp
         obtain ⟨z0, z1, z2, z3⟩ := blk2 hB3)
      | fail)
    refine bodyPost_ret (results_ct rfl _ _ W.heap.size 31 #[.slice A2 cells.length c2, .bool wr] (0, 0) _ rfl ((blk_set (blk_set hB3 0 _) 1 _).trans rfl) Try.underlying31 rfl info31s) rfl ?_
    refine ⟨_, rfl, Kd.R_mono (Kd.R_lower (Kd.R_far (Kd.R_far (Kd.R_bound hR0) (p := ⟨W.heap.size, 0, none⟩) ?g1 _) (p := ⟨W.heap.size, 1, none⟩) ?g2 _) (by omega)) (fun _ _ => trivial), below_set (below_set hb13 (Nat.le_refl _)) (Nat.le_refl _)⟩
    all_goals
      intro k hk
      have := hk.2.1
      show k ≠ W.heap.size
      omega
end Go.Proofs.Ytkigdcihhlkkdaa.P
end
section
set_option linter.unusedVariables false
set_option linter.unusedSimpArgs false
namespace Go.Proofs.Ytkigdcihhlkkdaa.P
open Go.RowKit Go.Shelf Go.Proofs.YtkigdcihhlkkdaaW.PrintWords Go.Proofs.YtkigdcihhlkkdaaW.PrintLast Go.Proofs.YtkigdcihhlkkdaaW.PrintMore
attribute [local go_sem] Oper.semAt_some
structure Rw where
  i : Nat
  A : Option Addr
  len : Nat
  c : Nat
  wr : Bool
def Rw.encs (x : Rw) : Array Value := #[.int .i64 (x.i : Int), .agg #[.slice x.A x.len x.c, .bool x.wr]]
def KeepOn (okp : Nat → Prop) (W W' : World) : Prop := W.heap.size ≤ W'.heap.size ∧ ∀ k, okp k → W'.heap[k]? = W.heap[k]?
theorem KeepOn.trans {okp : Nat → Prop} {A B C : World} (h : KeepOn okp A B) (k : KeepOn okp B C) : KeepOn okp A C := ⟨Nat.le_trans h.1 k.1, fun i hi => (k.2 i hi).trans (h.2 i hi)⟩
theorem grown_of_below {W W' : World} (h : Below W.heap.size W W') : W.grownBy W' none := ⟨h.os, h.tape, h.output, h.size, fun k hk _ => h.block k hk⟩
theorem StoreAt.all_bnd {W : World} {ok : Nat → Prop} {s : Nat} {lim n gone : Int} {ps : List Pg} (h : StoreAt W ok s lim n gone ps) : StoreAt W (fun k => ok k ∧ k < W.heap.size) s lim n gone (ps.map (P.bnd W)) := by
  have hlt := h.lt
  obtain ⟨h0, v, hg, hv, hp, hd⟩ := h.bnd
  refine ⟨⟨h0, hlt⟩, v, hg, Kd.Q_mono (Kd.Q_bound hv) (fun k hk => ⟨⟨hk.1.1, hk.2.2.1⟩, hk.1.2⟩), fun p hpm => ⟨(hp p hpm).1, fun k hk => ?_⟩, hd⟩
  obtain ⟨q, hq, rfl⟩ := List.mem_map.1 hpm
  exact ⟨⟨((hp _ hpm).2 k hk).1, hk.2⟩, ((hp _ hpm).2 k hk).2⟩
set_option maxHeartbeats 1000000 in
set_option maxRecDepth 100000 in
theorem store_all (v : Value) (hv : ∃ p, v = .pointer p) (w : World) :
    Calls Try.prog 41 #[v] w fun e w' => e = .returned (.func (.func 63) #[] #[.pointer (some ⟨w.heap.size, 0, none⟩)]) ∧ w' = w.alloc (.cells #[v] 56) := by
  obtain ⟨p, rfl⟩ := hv
  go_enter Try.func41, Try.ntmps41
  go_wp2
  go_ret
  exact ⟨rfl, rfl⟩
theorem func63 : Try.prog.funcs[63]? = some Try.f63 := Try.func63
set_option maxHeartbeats 4000000 in
set_option maxRecDepth 100000 in
theorem store_all1 (n l Bn n₀ : Nat) (hn1 : 1 ≤ n) (ok : Nat → Prop) (s : Nat) (lim cnt gone : Int) (ps : List Pg) (rowOf : Nat → List S45 × Bool) (hI : Inv ps) (hcnt : cnt = (flat ps).length) (hcnt2 : cnt ≤ 100000000) (hok : ∀ k, ok k → k < n₀) (hBn : Bn < n₀)
    (hget : ∀ i b, (flat ps)[i]? = some b → ∃ m er, ∀ w A c, Kd.C (Kd.int .u8) w A b.length b → b.length ≤ c → Calls Try.prog 30 #[.slice A b.length c] w fun e w' => ∃ v0_ : Value, e = .returned (.tuple #[.agg #[v0_, .bool (rowOf i).2], .int .i64 m, .int .i64 er]) ∧ Kd.R k45 45 w' w.heap.size (fun _ => True) v0_ (rowOf i).1 ∧ Below w.heap.size w w')
    (J Jx : List Rw → World → Prop) (W : World) (hJa : AbidesFrom W.heap.size J) (hn₀ : n₀ ≤ W.heap.size)
    (hY : ∀ pre x W1, J pre W1 → pre.length < (flat ps).length → YieldAt Fence.wide (n - 1) Try.prog l x.encs W1 fun e W' =>
      (e = .returned (.bool true) ∧ J (pre ++ [x]) W' ∧ KeepOn (fun k => ok k ∨ k = Bn) W1 W') ∨ (e = .returned (.bool false) ∧ Jx (pre ++ [x]) W'))
    (hS : StoreAt W ok s lim cnt gone ps) (hbx : W.heap[Bn]? = some (.cells #[.pointer (some ⟨s, 0, none⟩)] 56 (0, 0))) (h0 : J [] W) :
    CallsIn Fence.wide n Try.prog 63 #[.func (.yield l) #[] #[], .pointer (some ⟨Bn, 0, none⟩)] W fun e W' => (∃ v, e = .returned v) ∧
      ((∃ ys : List Rw, (ys.map (fun x => (x.i, x.len)) = (List.range (flat ps).length).map (fun i => (i, (rowOf i).1.length))) ∧ J ys W') ∨ (∃ pre : List Rw, (∃ m, m ≤ (flat ps).length ∧ pre.map (fun x => (x.i, x.len)) = (List.range m).map (fun i => (i, (rowOf i).1.length))) ∧ Jx pre W')) := by
  have hlen := store_len W ok s lim cnt gone ps hS
  have hc0 : W.cell? ⟨Bn, 0, none⟩ = some (.pointer (some ⟨s, 0, none⟩)) := (blk_cell hbx 0).trans rfl
  refine callsIn_of_wp Try.func63 rfl trivial ?_ rfl
  simp only [Try.ntmps63, List.size_toArray, List.length_cons, List.length_nil, Nat.reduceAdd, Nat.reduceSub, Array.replicate_succ, Array.replicate_zero, List.push_toArray, List.append_toArray, List.nil_append, List.cons_append]
  gi_wp2_with (refine ⟨trivial, ?_⟩; gi_at_call 44; refine (callsIn_wide.2 hlen).mono ?_; rintro e w1 ⟨rfl, hd1⟩; obtain ⟨m1, rfl⟩ := hd1.out)
  gi_loopw [8] (fun v8 wr => ∃ (pre : List Rw), v8 = .int .i64 (pre.length : Int) ∧ Aside0 (pre.length ≤ (flat ps).length ∧ pre.map (fun x => (x.i, x.len)) = (List.range pre.length).map (fun i => (i, (rowOf i).1.length)) ∧ J pre wr ∧ KeepOn (fun k => ok k ∨ k = Bn) W wr))
    (fun v8 wr => (flat ps).length - (intOf v8).toNat)
  case atStart => exact ⟨[], rfl, ⟨Nat.zero_le _, rfl, hJa _ W _ none h0 (grown_of_below (pw_below_drewN (Below.refl _ _) m1)) (fun r e => by cases e), Nat.le_refl _, fun _ _ => rfl⟩⟩
  case round =>
    obtain ⟨pre, rfl, HA⟩ := hrel
    have hX := Aside0.mk (And.intro hcnt hcnt2)
    have hSr : StoreAt wr ok s lim cnt gone ps := hS.step (fun k hk _ => HA.out.2.2.2.2 k (.inl hk))
    have hbr := (HA.out.2.2.2.2 Bn (.inr rfl)).trans hbx
    have hcr : wr.cell? ⟨Bn, 0, none⟩ = some (.pointer (some ⟨s, 0, none⟩)) := (blk_cell hbr 0).trans rfl
    have hw1 : IntKind.i64.wrap ((pre.length : Int) + 1) = (pre.length : Int) + 1 := by have h1 := HA.out.1; rw [IntKind.wrap_i64]; omega
    by_cases hlt : pre.length < (flat ps).length
    · obtain ⟨b, hb⟩ : ∃ b, (flat ps)[pre.length]? = some b := ⟨_, List.getElem?_eq_getElem hlt⟩
      obtain ⟨m, er, hgb⟩ := hget _ _ hb
      have hat := store_at_in wr ok s lim cnt gone ps (pre.length : Int) b (rowOf pre.length).1 (rowOf pre.length).2 m er hSr hI hcnt hcnt2 (by omega) (by rw [Int.toNat_natCast]; exact hb) hgb
      clear hgb
      gi_wp2_with (refine ⟨trivial, ?_⟩; gi_at_call 43; refine (callsIn_wide.2 hat).mono ?_; rintro e w3 ⟨v0, rfl, hR0, hb3⟩; obtain ⟨A2, c2, rfl⟩ := Kd.R_slice hR0; obtain ⟨fn, tmps, assign, body, hy, hR⟩ := hY pre ⟨pre.length, A2, (rowOf pre.length).1.length, c2, (rowOf pre.length).2⟩ (w3.alloc (.cells #[.slice A2 (rowOf pre.length).1.length c2, .bool (rowOf pre.length).2] 31)) (hJa _ wr _ none HA.out.2.2.1 (grown_of_below (below_alloc hb3 _)) (fun r e => by cases e)) hlt; dsimp only [Rw.encs] at hy)
      have hokn : ∀ k, (ok k ∨ k = Bn) → k < n₀ := fun k hk => hk.elim (hok k) (fun e => e ▸ hBn)
      have hbw : Below wr.heap.size wr (w3.alloc (.cells #[.slice A2 (rowOf pre.length).1.length c2, .bool (rowOf pre.length).2] 31)) := below_alloc hb3 _
      have hkp : KeepOn (fun k => ok k ∨ k = Bn) W (w3.alloc (.cells #[.slice A2 (rowOf pre.length).1.length c2, .bool (rowOf pre.length).2] 31)) :=
        KeepOn.trans HA.out.2.2.2 ⟨hbw.size, fun k hk => hbw.block k (Nat.lt_of_lt_of_le (hokn k hk) (Nat.le_trans hn₀ HA.out.2.2.2.1))⟩
      have hmap : (pre ++ [(⟨pre.length, A2, (rowOf pre.length).1.length, c2, (rowOf pre.length).2⟩ : Rw)]).map (fun x => (x.i, x.len)) = (List.range (pre.length + 1)).map (fun i => (i, (rowOf i).1.length)) := by
        rw [List.map_append, HA.out.2.1, List.range_succ, List.map_append]
        rfl
      refine hR.mono ?_
      rintro e W' (⟨rfl, hJ', hk'⟩ | ⟨rfl, hJx'⟩)
      · gi_wp2
        go_roundw
        case rel => exact ⟨_, by simp, ⟨by simp; omega, by rw [List.length_append, List.length_singleton]; exact hmap, hJ', hkp.trans hk'⟩⟩
        case measure => simp [intOf]; omega
      · gi_wp2
        refine bodyPost_ret (results_none rfl _ _ _) rfl ?_
        exact ⟨⟨_, rfl⟩, .inr ⟨_, ⟨pre.length + 1, hlt, hmap⟩, hJx'⟩⟩
    · gi_wp2
      go_end0
      have he : pre.length = (flat ps).length := by have := HA.out.1; omega
      exact ⟨⟨_, rfl⟩, .inl ⟨pre, by rw [← he]; exact HA.out.2.1, HA.out.2.2.1⟩⟩
theorem store_all_stops (n Bn : Nat) (hn1 : 1 ≤ n) (ok : Nat → Prop) (s : Nat) (lim cnt gone : Int) (ps : List Pg) (rowOf : Nat → List S45 × Bool) (w : World) (hI : Inv ps) (hcnt : cnt = (flat ps).length) (hcnt2 : cnt ≤ 100000000) (hok : ∀ k, ok k → k < w.heap.size)
    (hget : ∀ i b, (flat ps)[i]? = some b → ∃ m er, ∀ w A c, Kd.C (Kd.int .u8) w A b.length b → b.length ≤ c → Calls Try.prog 30 #[.slice A b.length c] w fun e w' => ∃ v0_ : Value, e = .returned (.tuple #[.agg #[v0_, .bool (rowOf i).2], .int .i64 m, .int .i64 er]) ∧ Kd.R k45 45 w' w.heap.size (fun _ => True) v0_ (rowOf i).1 ∧ Below w.heap.size w w')
    (hS : StoreAt w ok s lim cnt gone ps) (hbx : w.heap[Bn]? = some (.cells #[.pointer (some ⟨s, 0, none⟩)] 56 (0, 0))) :
    SeqStopsK Fence.wide n Try.prog 63 #[.pointer (some ⟨Bn, 0, none⟩)] Rw.encs (KeepOn (fun k => ok k ∨ k = Bn)) (fun ys => ys.map (fun x => (x.i, x.len)) = (List.range (flat ps).length).map (fun i => (i, (rowOf i).1.length)))
      (fun pre => ∃ m, m ≤ (flat ps).length ∧ pre.map (fun x => (x.i, x.len)) = (List.range m).map (fun i => (i, (rowOf i).1.length))) (flat ps).length w := fun l J Jx W hW hJ _ hY h0 =>
  store_all1 n l Bn w.heap.size hn1 ok s lim cnt gone ps rowOf hI hcnt hcnt2 hok (blk_lt hbx) hget J Jx W hJ hW.size hY (hS.below hW) (blk_below hbx hW) h0
end Go.Proofs.Ytkigdcihhlkkdaa.P
end
section
set_option linter.unusedVariables false
set_option linter.unusedSimpArgs false
namespace Go.Proofs.Ytkigdcihhlkkdaa.P
open Go.RowKit Go.Proofs.YtkigdcihhlkkdaaW.PrintWords Go.Proofs.YtkigdcihhlkkdaaW.PrintLast Go.Proofs.YtkigdcihhlkkdaaW.PrintMore
def sumLen (l : List (List Int)) : Nat := (l.map List.length).sum
theorem sumLen_take (l : List (List Int)) (i : Nat) (hi : i < l.length) : sumLen (l.take (i + 1)) = sumLen (l.take i) + (l.getD i []).length := by
  unfold sumLen
  rw [List.take_add_one, List.getElem?_eq_getElem hi, Option.toList_some, List.map_append, List.sum_append, List.getD_eq_getElem?_getD, List.getElem?_eq_getElem hi]
  simp
theorem sumLen_le (l : List (List Int)) (i : Nat) : sumLen (l.take i) ≤ sumLen l := by
  have h : l = l.take i ++ l.drop i := (List.take_append_drop i l).symm
  conv => rhs; rw [h]
  unfold sumLen
  rw [List.map_append, List.sum_append]
  omega
theorem flatten_take (l : List (List Int)) (i : Nat) (hi : i < l.length) : (l.take (i + 1)).flatten = (l.take i).flatten ++ l.getD i [] := by
  rw [List.take_add_one, List.getElem?_eq_getElem hi, Option.toList_some, List.flatten_append, List.getD_eq_getElem?_getD, List.getElem?_eq_getElem hi]
  simp
theorem flatten_len (l : List (List Int)) : l.flatten.length = sumLen l := by simp [sumLen, List.length_flatten]
set_option maxHeartbeats 4000000 in
set_option maxRecDepth 100000 in
theorem slices_grow (w : World) (n : Nat) (hn : n ≤ 100000000000) :
    Calls Try.prog 69 #[.slice none 0 0, .int .i64 (n : Int)] w fun e w' => ∃ v : Value, e = .returned v ∧ Kd.R (Kd.int .u8) 5 w' w.heap.size (fun _ => True) v ([] : List Int) ∧ Below w.heap.size w w' := by
  have hw1 : IntKind.i64.wrap (n : Int) = n := by rw [IntKind.wrap_i64]; omega
  go_enter Try.func69, Try.ntmps69
  by_cases h0 : n = 0
  · subst h0
    go_wp2
    go_ret
    exact ⟨_, rfl, Kd.R_nil _ _ _ _ _, Below.refl _ _⟩
  · have hp : (0 : Int) < (n : Int) := by omega
    go_wp2_with (first
      | ((with_reducible refine gate_builtin (b := .append) rfl ?_)
         refine Kd.R_append_zeros (Kd.int .u8) (w0 := w) (W := w) w.heap.size (by rfl) (.tmp 20) (.tmp 21) 23 3 5 (.int .u8 0) 1 (by rfl) Try.underlying23 Try.underlying3 info5 rfl (by decide) (by decide) (.slice none 0 0) ([] : List Int) (0 : Int) (n : Int) (fun _ => True) (by rfl) (by rfl) rfl (fun _ _ => trivial) (Kd.R_nil _ _ _ _ _) (by omega) (Below.refl _ _) (Nat.le_refl _) (by simp; omega) ?_
         intro v1 w1 hO hB hg hat
         obtain ⟨A1, c1, rfl⟩ := Kd.R_slice hO
         have hT := Kd.R_take hO (m := 0) (Nat.zero_le _))
      | fail)
    go_ret
    exact ⟨_, rfl, hT, hB⟩
set_option maxHeartbeats 4000000 in
set_option maxRecDepth 100000 in
theorem slices_concat (w : World) (A : Option Addr) (c : Nat) (rows : List (List Int)) (hC : Kd.C (Kd.slice 5 (Kd.int .u8)) w A rows.length rows) (hs : sumLen rows ≤ 100000000000) (hl : rows.length ≤ 100000000000) :
    Calls Try.prog 60 #[.slice A rows.length c] w fun e w' => ∃ v : Value, e = .returned v ∧ Kd.R (Kd.int .u8) 5 w' w.heap.size (fun _ => True) v rows.flatten ∧ Below w.heap.size w w' := by
  go_enter Try.func60, Try.ntmps60
  go_wp2
  go_loopg [3, 11] (rows.length + 1) (fun kq v3 v11 w' => ∃ (i : Nat), v11 = .int .i64 (i : Int) ∧ v3 = .int .i64 (sumLen (rows.take i) : Int) ∧ Aside0 (i ≤ rows.length ∧ Below w.heap.size w w' ∧ rows.length < kq + i))
  case atStart => exact ⟨0, rfl, rfl, ⟨Nat.zero_le _, Below.refl _ _, by omega⟩⟩
  case round =>
    obtain ⟨i, rfl, rfl, HA⟩ := hrel
    have hw9 : IntKind.i64.wrap ((i : Int) + 1) = (i : Int) + 1 := by have := HA.out.1; rw [IntKind.wrap_i64]; omega
    by_cases hi : i < rows.length
    · have hst := sumLen_take rows i hi
      have hsl := sumLen_le rows (i + 1)
      obtain ⟨ad, A0, c0, rfl, hx, hc0, _⟩ := at_L5 (Kd.C_below hC HA.out.2.1) (i : Int) (by omega) (by omega)
      rw [Int.toNat_natCast] at hx
      change _ = some (Value.slice A0 (rows.getD i []).length c0) at hx
      generalize hgl : (rows.getD i []).length = q at hx hst
      have hw3 : IntKind.i64.wrap ((sumLen (rows.take i) : Int) + (q : Int)) = (sumLen (rows.take (i + 1)) : Int) := by rw [IntKind.wrap_i64]; omega
      go_wp2
      go_roundg (gk - 1)
      case measure => have := HA.out.2.2; omega
      case rel => exact ⟨i + 1, by simp, by rw [hst]; simp, ⟨by omega, HA.out.2.1, by have := HA.out.2.2; omega⟩⟩
    · have hsl := sumLen_le rows i
      have hgr := slices_grow wr (sumLen (rows.take i)) (by omega)
      go_wp2_with (first
        | (go_at_call 69; refine hgr.mono ?_; rintro e w1 ⟨v0, rfl, hO0, hB0⟩; obtain ⟨A1, c1, rfl⟩ := Kd.R_slice hO0)
        | fail)
      have hBw := HA.out.2.1
      have hOw := Kd.R_lower hO0 hBw.size
      have hBw1 : Below w.heap.size w w1 := hBw.trans (hB0.mono hBw.size)
      clear hgr hO0 hB0
      go_loopg [6, 27] (rows.length + 1) (fun kq v6 v27 w' => ∃ (i : Nat), v27 = .int .i64 (i : Int) ∧ Aside0 (i ≤ rows.length ∧ Kd.R (Kd.int .u8) 5 w' w.heap.size (fun _ => True) v6 (rows.take i).flatten ∧ Below w.heap.size w w' ∧ rows.length < kq + i))
      case atStart => exact ⟨0, rfl, ⟨Nat.zero_le _, by rw [List.take_zero]; exact hOw, hBw1, by omega⟩⟩
      case round =>
        obtain ⟨i, rfl, HA⟩ := hrel
        have hw9 : IntKind.i64.wrap ((i : Int) + 1) = (i : Int) + 1 := by have := HA.out.1; rw [IntKind.wrap_i64]; omega
        by_cases hi : i < rows.length
        · have hst := flatten_take rows i hi
          have hl2 := sumLen_take rows i hi
          have hsl := sumLen_le rows (i + 1)
          have hfl := flatten_len (rows.take i)
          obtain ⟨ad, A0, c0, rfl, hx, hc0, hC0⟩ := at_L5 (Kd.C_below hC HA.out.2.2.1) (i : Int) (by omega) (by omega)
          rw [Int.toNat_natCast] at hx
          change _ = some (Value.slice A0 (rows.getD i []).length c0) at hx
          change Kd.C (Kd.int .u8) _ A0 (rows.getD i []).length (rows.getD i []) at hC0
          have hO := HA.out.2.1
          have hB := HA.out.2.2.1
          obtain ⟨A2, c2, rfl⟩ := Kd.R_slice hO
          generalize hgl : rows.getD i [] = q at hx hst hC0 hl2
          generalize hgm : (rows.take i).flatten = acc at hO hst hfl
          go_wp2_with (first
            | ((with_reducible refine gate_builtin (b := .append) rfl ?_)
               refine Kd.R_append_rows (Kd.int .u8) (w0 := w) (W := wr) w.heap.size (by rfl) (.tmp 31) (.tmp 32) 23 5 (.int .u8 0) 1 (by rfl) Try.underlying23 info5 rfl (by decide) (by decide) (.slice A2 acc.length c2) acc q A0 q.length c0 (fun _ => True) (fun _ => False) (by rfl) (by rfl) hO hC0 (fun _ _ h => h) (fun _ h => h.elim) (fun _ _ => trivial) hB hB.size (by omega) ?_
               intro v5 w5 hO5 hB5 hg5 hat5)
            | fail)
          go_roundg (gk - 1)
          case measure => have := HA.out.2.2.2; omega
          case rel => exact ⟨i + 1, by simp, ⟨by omega, by rw [hst]; exact hO5, hB5, by have := HA.out.2.2.2; omega⟩⟩
        · go_wp2
          go_ret
          have he : i = rows.length := by have := HA.out.1; omega
          subst he
          have hall := HA.out
          rw [List.take_length] at hall
          exact ⟨_, rfl, hall.2.1, hall.2.2.1⟩
set_option maxHeartbeats 4000000 in
set_option maxRecDepth 100000 in
theorem page_bytes (W : World) (ok : Nat → Prop) (g : Nat) (rows : List (List Int)) (hpage : PageAt W ok g rows) (hs : sumLen rows ≤ 100000000000) (hl : rows.length ≤ 100000000000) :
    Calls Try.prog 38 #[.pointer (some ⟨g, 0, none⟩)] W fun e w' => e = .returned (.int .i64 (sumLen rows : Int)) ∧ Below W.heap.size W w' := by
  obtain ⟨hokg, v, hg, hv⟩ := hpage
  obtain ⟨A0, c0, rfl, hc0⟩ := Kd.NQ_slice hv
  have hcell : W.cell? ⟨g, 0, none⟩ = some (.slice A0 rows.length c0) := by simp [World.cell?, hg]
  have hcon := slices_concat W A0 c0 rows (Kd.NQ_reads' hv).2.2 hs hl
  have hfl := flatten_len rows
  go_enter Try.func38, Try.ntmps38
  go_wp2_with (first
    | (go_at_call 60; refine hcon.mono ?_; rintro e w1 ⟨v0, rfl, hO0, hB0⟩; obtain ⟨A1, c1, rfl⟩ := Kd.R_slice hO0; rw [hfl] at hO0 ⊢)
    | fail)
  go_ret
  exact ⟨rfl, hB0⟩
end Go.Proofs.Ytkigdcihhlkkdaa.P
end
section
namespace Go.Proofs.Ytkigdcihhlkkdaa.P
open Go.RowKit Go.Proofs.YtkigdcihhlkkdaaW.PrintWords Go.Proofs.YtkigdcihhlkkdaaW.PrintLast Go.Proofs.YtkigdcihhlkkdaaW.PrintMore
attribute [local go_sem] max2_int min2_int max_two min_two max_three min_three max_four min_four   -- for this text's walks alone
set_option linter.unusedVariables false
set_option linter.unusedSimpArgs false
def slices_Equal_byte_byte.l0 : Nat → List Int → List Int → Int → Int → Option (Bool)
  | 0, _, _, _, _ => none
  | k + 1, x0, x1, x12, x13 => if x13 < x12 then (if 0 ≤ x13 then (if x13 < (x0.length : Int) then (if x13 < (x1.length : Int) then (if (rd x0 x13) = (rd x1 x13) then (slices_Equal_byte_byte.l0 k x0 x1 x12 (wrap64 (x13 + 1))) else (some false)) else (none)) else (none)) else (none)) else (some true)
def slices_Equal_byte_byte.f (k : Nat) (l0 : List Int) (l1 : List Int) : Option (Bool) := if (l0.length : Int) = (l1.length : Int) then (slices_Equal_byte_byte.l0 k l0 l1 (l0.length : Int) 0) else (some false)
theorem slices_Equal_byte_byte.mono_l : ∀ k, (∀ y0 y1 y2 y3, LeO (slices_Equal_byte_byte.l0 k y0 y1 y2 y3) (slices_Equal_byte_byte.l0 (k + 1) y0 y1 y2 y3))
  | 0 => fun _ _ _ _ r h => by simp [slices_Equal_byte_byte.l0] at h
  | k + 1 => by
    have ih0 := slices_Equal_byte_byte.mono_l k
    · intro y0 y1 y2 y3
      unfold slices_Equal_byte_byte.l0
      repeat' first
      | (with_reducible exact ih0 _ _ _ _)
      | (with_reducible exact LeO.refl _)
      | (with_reducible exact LeO.none _)
      | (with_reducible refine LeO.ite ?_ ?_)
      | (with_reducible refine LeO.bind ?_ (fun _ => ?_))
      | exact ih0 _ _ _ _
      | exact LeO.none _
      | refine LeO.ite ?_ ?_
      | refine LeO.bind ?_ (fun _ => ?_)
theorem slices_Equal_byte_byte.mono : ∀ a0 a1 k, LeO (slices_Equal_byte_byte.f k a0 a1) (slices_Equal_byte_byte.f (k + 1) a0 a1) := by
  intro a0 a1 k
  have ih0 := slices_Equal_byte_byte.mono_l k
  unfold slices_Equal_byte_byte.f
  repeat' first
      | (with_reducible exact ih0 _ _ _ _)
      | (with_reducible exact LeO.refl _)
      | (with_reducible exact LeO.none _)
      | (with_reducible refine LeO.ite ?_ ?_)
      | (with_reducible refine LeO.bind ?_ (fun _ => ?_))
      | exact ih0 _ _ _ _
      | exact LeO.none _
      | refine LeO.ite ?_ ?_
      | refine LeO.bind ?_ (fun _ => ?_)
set_option maxHeartbeats 8000000 in
set_option maxRecDepth 100000 in
theorem slices_Equal_byte_byte.calls (k : Nat) (A0 : Option Addr) (c0 : Nat) (l0 : List Int) (A1 : Option Addr) (c1 : Nat) (l1 : List Int) (r : Bool) (w : World) (hr0 : Kd.C (Kd.int .u8) w A0 l0.length l0) (hc0 : l0.length ≤ c0) (hr1 : Kd.C (Kd.int .u8) w A1 l1.length l1) (hc1 : l1.length ≤ c1) (h : slices_Equal_byte_byte.f k l0 l1 = some r) :
    Calls Try.prog 51 #[.slice A0 l0.length c0, .slice A1 l1.length c1] w fun e w' => e = .returned (.bool r) ∧ Drawn0 w w' := by
  have HR0 := Aside0.mk hr0
  have HC0 := Aside0.mk hc0
  clear hr0 hc0
  have HR1 := Aside0.mk hr1
  have HC1 := Aside0.mk hc1
  clear hr1 hc1
  have H : (if (l0.length : Int) = (l1.length : Int) then (slices_Equal_byte_byte.l0 k l0 l1 (l0.length : Int) 0) else (some false)) = some r := h
  clear h
  by_cases c3 : (l0.length : Int) = (l1.length : Int)
  · rw [if_pos c3] at H
    have c3b0 : ((l0.length : Int) == (l1.length : Int)) = true := beq_iff_eq.mpr c3
    have c3b1 : ((l0.length : Int) != (l1.length : Int)) = false := bne_eq_false_iff_eq.mpr c3
    have c3b2 : (l0.length == l1.length) = true := by first | simpa using c3 | (simp at c3 ⊢; omega)
    clear c3
    have H' := Aside0.mk H
    clear H
    go_enter Try.func51, Try.ntmps51
    go_wp2
    repeat (go_quiet (fail); try go_wp2)
    go_loopg [13] k (fun kq v13 w' => ∃ (x13_1 : Int), v13 = .int .i64 x13_1 ∧ Aside0 (slices_Equal_byte_byte.l0 kq l0 l1 (l0.length : Int) x13_1 = some r) ∧ Aside0 (kq ≤ k) ∧ Drawn0 w w')
    case atStart => exact ⟨(0), (by first | rfl | (simp; done) | (simp [*]; done)), H', ⟨Nat.le_refl _⟩, by repeat (first | exact Drawn0.refl _ | apply Drawn0.step)⟩
    case round =>
      clear H'
      try clear c1
      try clear p2
      try clear c3
      try clear c3b0
      try clear c3b1
      try clear c3b2
      obtain ⟨x13_1, rfl, HA, HK1, ⟨m1, rfl⟩⟩ := hrel
      cases gk with
      | zero => exact absurd HA.out (by simp [slices_Equal_byte_byte.l0])
      | succ k1 =>
        have H := HA.out
        clear HA
        simp only [slices_Equal_byte_byte.l0] at H
        by_cases c4 : x13_1 < (l0.length : Int)
        · rw [if_pos c4] at H
          have c4b0 : decide (x13_1 < (l0.length : Int)) = true := decide_eq_true c4
          clear c4
          have c5 : 0 ≤ x13_1 := Decidable.byContradiction fun hc_ => absurd ((if_neg hc_).symm.trans H) (by simp)
          rw [if_pos c5] at H
          have c5b0 : decide (0 ≤ x13_1) = true := decide_eq_true c5
          clear c5
          have c6 : x13_1 < (l0.length : Int) := Decidable.byContradiction fun hc_ => absurd ((if_neg hc_).symm.trans H) (by simp)
          rw [if_pos c6] at H
          have c6b0 : decide (x13_1 < (l0.length : Int)) = true := decide_eq_true c6
          clear c6
          have c7 : x13_1 < (l1.length : Int) := Decidable.byContradiction fun hc_ => absurd ((if_neg hc_).symm.trans H) (by simp)
          rw [if_pos c7] at H
          have c7b0 : decide (x13_1 < (l1.length : Int)) = true := decide_eq_true c7
          clear c7
          by_cases c8 : (rd l0 x13_1) = (rd l1 x13_1)
          · rw [if_pos c8] at H
            have c8b0 : ((rd l0 x13_1) == (rd l1 x13_1)) = true := beq_iff_eq.mpr c8
            have c8b1 : ((rd l0 x13_1) != (rd l1 x13_1)) = false := bne_eq_false_iff_eq.mpr c8
            clear c8
            have H' := Aside0.mk H
            clear H
            have p107 : 0 ≤ (x13_1 : Int) := of_decide_eq_true (by first | (with_reducible assumption) | assumption)
            have q107 : x13_1 < (l0.length : Int) := of_decide_eq_true (by first | (with_reducible assumption) | assumption)
            obtain ⟨ad107, e107, hx107_0⟩ := Kd.at_int HR0.out x13_1 p107 q107
            cases e107
            replace p107 := eq_true p107
            replace q107 := eq_true q107
            have p108 : 0 ≤ (x13_1 : Int) := of_decide_eq_true (by first | (with_reducible assumption) | assumption)
            have q108 : x13_1 < (l1.length : Int) := of_decide_eq_true (by first | (with_reducible assumption) | assumption)
            obtain ⟨ad108, e108, hx108_0⟩ := Kd.at_int HR1.out x13_1 p108 q108
            cases e108
            replace p108 := eq_true p108
            replace q108 := eq_true q108
            go_wp2
            repeat (go_quiet (fail); try go_wp2)
            go_roundg k1
            case measure => have := HK1.out; omega
            case rel => exact ⟨(wrap64 (x13_1 + 1)), (by first | rfl | (simp; done) | (simp [*]; done)), H', ⟨by have := HK1.out; omega⟩, by repeat (first | exact Drawn0.refl _ | apply Drawn0.step)⟩
          · rw [if_neg c8] at H
            have c8b0 : ((rd l0 x13_1) == (rd l1 x13_1)) = false := beq_eq_false_iff_ne.mpr c8
            have c8b1 : ((rd l0 x13_1) != (rd l1 x13_1)) = true := bne_iff_ne.mpr c8
            obtain rfl := Option.some.inj H
            have p107 : 0 ≤ (x13_1 : Int) := of_decide_eq_true (by first | (with_reducible assumption) | assumption)
            have q107 : x13_1 < (l0.length : Int) := of_decide_eq_true (by first | (with_reducible assumption) | assumption)
            obtain ⟨ad107, e107, hx107_0⟩ := Kd.at_int HR0.out x13_1 p107 q107
            cases e107
            replace p107 := eq_true p107
            replace q107 := eq_true q107
            have p108 : 0 ≤ (x13_1 : Int) := of_decide_eq_true (by first | (with_reducible assumption) | assumption)
            have q108 : x13_1 < (l1.length : Int) := of_decide_eq_true (by first | (with_reducible assumption) | assumption)
            obtain ⟨ad108, e108, hx108_0⟩ := Kd.at_int HR1.out x13_1 p108 q108
            cases e108
            replace p108 := eq_true p108
            replace q108 := eq_true q108
            go_wp2
            repeat (go_quiet (fail); try go_wp2)
            go_ret
            exact ⟨by first | rfl | (simp; done) | (simp [*]; done), by repeat (first | exact Drawn0.refl _ | apply Drawn0.step)⟩
        · rw [if_neg c4] at H
          have c4b0 : decide (x13_1 < (l0.length : Int)) = false := decide_eq_false c4
          clear c4
          obtain rfl := Option.some.inj H
          go_wp2
          repeat (go_quiet (fail); try go_wp2)
          go_ret
          exact ⟨by first | rfl | (simp; done) | (simp [*]; done), by repeat (first | exact Drawn0.refl _ | apply Drawn0.step)⟩
  · rw [if_neg c3] at H
    have c3b0 : ((l0.length : Int) == (l1.length : Int)) = false := beq_eq_false_iff_ne.mpr c3
    have c3b1 : ((l0.length : Int) != (l1.length : Int)) = true := bne_iff_ne.mpr c3
    have c3b2 : (l0.length == l1.length) = false := by first | simpa using c3 | (simp at c3 ⊢; omega)
    obtain rfl := Option.some.inj H
    go_enter Try.func51, Try.ntmps51
    go_wp2
    repeat (go_quiet (fail); try go_wp2)
    go_ret
    exact ⟨by first | rfl | (simp; done) | (simp [*]; done), by repeat (first | exact Drawn0.refl _ | apply Drawn0.step)⟩
end Go.Proofs.Ytkigdcihhlkkdaa.P
end
section
namespace Go.Proofs.Ytkigdcihhlkkdaa.P
open Go.RowKit Go.Proofs.YtkigdcihhlkkdaaW.PrintWords Go.Proofs.YtkigdcihhlkkdaaW.PrintLast Go.Proofs.YtkigdcihhlkkdaaW.PrintMore
attribute [local go_sem] max2_int min2_int max_two min_two max_three min_three max_four min_four   -- for this text's walks alone
set_option linter.unusedVariables false
set_option linter.unusedSimpArgs false
def pack_Uint.l0 : Nat → Int → List Int → Option (List Int)
  | 0, _, _ => none
  | k + 1, x0, x3 => if x0 ≥ 128 then (if x3.length < 140737488355328 then (pack_Uint.l0 k (x0 / 128) (x3 ++ [Go.bits .or .u8 ((x0) % 256) 128])) else (none)) else (if x3.length < 140737488355328 then (some (x3 ++ [(x0) % 256])) else (none))
def pack_Uint.f (k : Nat) (a0 : Int) : Option (List Int) := pack_Uint.l0 k a0 ([] : List Int)
theorem pack_Uint.mono_l : ∀ k, (∀ y0 y1, LeO (pack_Uint.l0 k y0 y1) (pack_Uint.l0 (k + 1) y0 y1))
  | 0 => fun _ _ r h => by simp [pack_Uint.l0] at h
  | k + 1 => by
    have ih0 := pack_Uint.mono_l k
    · intro y0 y1
      unfold pack_Uint.l0
      repeat' first
      | (with_reducible exact ih0 _ _)
      | (with_reducible exact LeO.refl _)
      | (with_reducible exact LeO.none _)
      | (with_reducible refine LeO.ite ?_ ?_)
      | (with_reducible refine LeO.bind ?_ (fun _ => ?_))
      | exact ih0 _ _
      | exact LeO.none _
      | refine LeO.ite ?_ ?_
      | refine LeO.bind ?_ (fun _ => ?_)
theorem pack_Uint.mono : ∀ a0 k, LeO (pack_Uint.f k a0) (pack_Uint.f (k + 1) a0) := by
  intro a0 k
  have ih0 := pack_Uint.mono_l k
  unfold pack_Uint.f
  repeat' first
      | (with_reducible exact ih0 _ _)
      | (with_reducible exact LeO.refl _)
      | (with_reducible exact LeO.none _)
      | (with_reducible refine LeO.ite ?_ ?_)
      | (with_reducible refine LeO.bind ?_ (fun _ => ?_))
      | exact ih0 _ _
      | exact LeO.none _
      | refine LeO.ite ?_ ?_
      | refine LeO.bind ?_ (fun _ => ?_)
set_option maxHeartbeats 8000000 in
set_option maxRecDepth 100000 in
theorem pack_Uint.calls (k : Nat) (a0 : Int) (r : List Int) (w : World) (h : pack_Uint.f k a0 = some r) :
    Calls Try.prog 19 #[.int .u64 a0] w fun e w' => ∃ v0_ : Value, e = .returned (v0_) ∧ Kd.R (Kd.int .u8) 5 w' w.heap.size (fun _ => True) v0_ r ∧ Below w.heap.size w w' := by
  have HB := Aside0.mk (Below.refl w.heap.size w)
  have H : (pack_Uint.l0 k a0 ([] : List Int)) = some r := h
  clear h
  have H' := Aside0.mk H
  clear H
  go_enter Try.func19, Try.ntmps19
  go_wp2
  go_loopg [0, 3] k (fun kq v0 v3 w' => ∃ (x0_1 : Int) (x3_1 : List Int), v0 = .int .u64 x0_1 ∧ Aside0 (pack_Uint.l0 kq x0_1 x3_1 = some r) ∧ Aside0 (kq ≤ k) ∧ Aside0 (Kd.R (Kd.int .u8) 5 w' w.heap.size (fun _ => True) v3 x3_1) ∧ Aside0 (Below w.heap.size w w'))
  case atStart => exact ⟨(a0), (([] : List Int)), (by first | rfl | (simp; done) | (simp [*]; done)), H', ⟨Nat.le_refl _⟩, ⟨by first | exact Kd.R_nil _ _ _ _ _ | exact Kd.N_nil _ _ _ _ _ | exact Kd.V_nil _ _ _ _ _ | exact Kd.Q_nil _ _ _ _ _ | exact Kd.S_nil _ _ _ _ _⟩, ⟨by repeat (first | (with_reducible first | exact HB.out | apply below_alloc | apply pw_below_drewN | apply below_drew1) | exact HB.out)⟩⟩
  case round =>
    clear H'
    try clear c1
    obtain ⟨x0_1, x3_1, rfl, HA, HK1, HO_3, HB⟩ := hrel
    cases gk with
    | zero => exact absurd HA.out (by simp [pack_Uint.l0])
    | succ k1 =>
      have H := HA.out
      clear HA
      simp only [pack_Uint.l0] at H
      by_cases c2 : x0_1 ≥ 128
      · rw [if_pos c2] at H
        have c2b0 : decide (128 ≤ x0_1) = true := decide_eq_true c2
        clear c2
        have c3 : x3_1.length < 140737488355328 := Decidable.byContradiction fun hc_ => absurd ((if_neg hc_).symm.trans H) (by simp)
        rw [if_pos c3] at H
        have LMc3 := Aside0.mk c3
        clear c3
        obtain ⟨y101, hy101⟩ : ∃ y_ : List Int, y_ = (x3_1 ++ [Go.bits .or .u8 ((x0_1) % 256) 128]) := ⟨_, rfl⟩
        replace H : (pack_Uint.l0 k1 (x0_1 / 128) y101) = some r := by first | (rw [hy101]; with_reducible exact H) | (have H2_ := (Option.bind_some _ _).symm.trans H; rw [hy101]; with_reducible exact H2_) | (have H2_ := (Option.bind_some _ _).symm.trans H; with_reducible exact H2_) | with_reducible exact H | (rw [hy101]; exact H) | exact H
        have Ny101 := Aside0.mk hy101
        clear hy101
        have H' := Aside0.mk H
        clear H
        go_wp2_with (first | ((with_reducible refine gate_builtin (b := .append) (xs := #[.tmp 6, .tmp 10]) rfl ?_); at_builtin; refine Kd.R_append (Kd.int .u8) (w0 := w) w.heap.size rfl (.tmp 6) (.tmp 10) 23 5 (.int .u8 0) 1 rfl Try.underlying23 info5 rfl (by decide) (by omega) u3 x3_1 (Go.bits .or .u8 ((x0_1) % 256) 128) [.int .u8 (Go.bits .or .u8 ((x0_1) % 256) 128)] (fun _ => True) (fun _ => False) rfl rfl ?aP (fun _ hk => hk.elim) ?aF ?aO ?aB ?aS ?aL ?_; (case aP => exact rfl); (case aB => exact (by repeat (first | (with_reducible first | exact HB.out | apply below_alloc | apply pw_below_drewN | apply below_drew1) | exact HB.out))); (case aF => exact (fun _ _ => trivial)); (case aO => exact (by (with_reducible repeat (first | apply Kd.R_alloc | apply Kd.R_drewN | apply Kd.R_drew)); exact HO_3.out)); (case aS => exact (below_size (by repeat (first | (with_reducible first | exact HB.out | apply below_alloc | apply pw_below_drewN | apply below_drew1) | exact HB.out)))); (case aL => have := LMc3.out; omega); intro v102 w4 ho hb hg hat; rw [← Ny101.out] at ho; have n0_ := Aside0.mk (hb); have n1_ := Aside0.mk (ho); clear HB; clear HO_3; have HB := n0_; have HO103 := n1_; clear n0_ n1_; clear ho hb hg hat))
        go_roundg k1
        case measure => have := HK1.out; omega
        case rel => exact ⟨(x0_1 / 128), (y101), (by first | rfl | (simp; done) | (simp [*]; done)), H', ⟨by have := HK1.out; omega⟩, ⟨by (with_reducible repeat (first | apply Kd.R_alloc | apply Kd.R_drewN | apply Kd.R_drew)); exact HO103.out⟩, ⟨by repeat (first | (with_reducible first | exact HB.out | apply below_alloc | apply pw_below_drewN | apply below_drew1) | exact HB.out)⟩⟩
      · rw [if_neg c2] at H
        have c2b0 : decide (128 ≤ x0_1) = false := decide_eq_false c2
        clear c2
        have c5 : x3_1.length < 140737488355328 := Decidable.byContradiction fun hc_ => absurd ((if_neg hc_).symm.trans H) (by simp)
        rw [if_pos c5] at H
        have LMc5 := Aside0.mk c5
        clear c5
        obtain ⟨y104, hy104⟩ : ∃ y_ : List Int, y_ = (x3_1 ++ [(x0_1) % 256]) := ⟨_, rfl⟩
        replace H : (some y104) = some r := by first | (rw [hy104]; with_reducible exact H) | (have H2_ := (Option.bind_some _ _).symm.trans H; rw [hy104]; with_reducible exact H2_) | (have H2_ := (Option.bind_some _ _).symm.trans H; with_reducible exact H2_) | with_reducible exact H | (rw [hy104]; exact H) | exact H
        have Ny104 := Aside0.mk hy104
        clear hy104
        obtain rfl := Option.some.inj H
        go_wp2_with (first | ((with_reducible refine gate_builtin (b := .append) (xs := #[.tmp 14, .tmp 17]) rfl ?_); at_builtin; refine Kd.R_append (Kd.int .u8) (w0 := w) w.heap.size rfl (.tmp 14) (.tmp 17) 23 5 (.int .u8 0) 1 rfl Try.underlying23 info5 rfl (by decide) (by omega) u3 x3_1 ((x0_1) % 256) [.int .u8 ((x0_1) % 256)] (fun _ => True) (fun _ => False) rfl rfl ?aP (fun _ hk => hk.elim) ?aF ?aO ?aB ?aS ?aL ?_; (case aP => exact rfl); (case aB => exact (by repeat (first | (with_reducible first | exact HB.out | apply below_alloc | apply pw_below_drewN | apply below_drew1) | exact HB.out))); (case aF => exact (fun _ _ => trivial)); (case aO => exact (by (with_reducible repeat (first | apply Kd.R_alloc | apply Kd.R_drewN | apply Kd.R_drew)); exact HO_3.out)); (case aS => exact (below_size (by repeat (first | (with_reducible first | exact HB.out | apply below_alloc | apply pw_below_drewN | apply below_drew1) | exact HB.out)))); (case aL => have := LMc5.out; omega); intro v105 w6 ho hb hg hat; rw [← Ny104.out] at ho; have n0_ := Aside0.mk (hb); have n1_ := Aside0.mk (ho); clear HB; clear HO_3; have HB := n0_; have HO106 := n1_; clear n0_ n1_; clear ho hb hg hat))
        go_ret
        exact ⟨_, by first | rfl | (simp [errW_none, errW_some] <;> rfl) | (simp [*, errW_none, errW_some] <;> rfl), by (with_reducible repeat (first | apply Kd.R_alloc | apply Kd.R_drewN | apply Kd.R_drew)); exact HO106.out, by repeat (first | (with_reducible first | exact HB.out | apply below_alloc | apply pw_below_drewN | apply below_drew1) | exact HB.out)⟩
end Go.Proofs.Ytkigdcihhlkkdaa.P
end
