-- Printed for this claim by wip/tools/pp.py (a session's program, over the kit's print with hand-made functions let in). Not trusted: Lean checks it.
import Derived.WalkSpells
import Derived.LoopTactic
import Derived.Test.YtiiljdglbfgdbaaLibs
import Derived.Test.YtiiljdglbfgdbaaS0
import Derived.Test.YtiiljdglbfgdbaaS1
import Derived.Test.YtiiljdglbfgdbaaS12
namespace Go.Proofs.Ytiiljdglbfgdbaa.S
open Go.RowKit Go.Proofs.YtiiljdglbfgdbaaW.PrintWords Go.Proofs.YtiiljdglbfgdbaaW.PrintLast Go.Proofs.YtiiljdglbfgdbaaW.PrintMore
attribute [local go_sem] max2_int min2_int max_two min_two max_three min_three max_four min_four   -- for this text's walks alone
set_option linter.unusedVariables false
set_option linter.unusedSimpArgs false

-- FOREIGN Derived.WalkSpells,Derived.LoopTactic,Derived.Test.YtiiljdglbfgdbaaLibs
/-! ### gaps_Named: function 29 -/
theorem gaps_Named.add_f (a i : Int) : seq_Num_Add.f a i = some ((a + i) % 16777216) := by
  unfold seq_Num_Add.f
  rw [gaps_pairs.low_f, Bits.and_i64_mask]
  simp only [Option.bind_some, seq_Of.f, Bits.and_u32_mask]
  congr 1
  unfold wrap64
  omega
theorem gaps_Named.add_calls (a i : Int) (w : World) : Calls Try.prog 14 #[.int .u32 a, .int .i64 i] w fun e w' => e = .returned (.int .u32 ((a + i) % 16777216)) ∧ ∃ m, w' = w.drewN m :=
  (seq_Num_Add.calls a i _ w (gaps_Named.add_f a i)).mono fun _ _ ⟨he, hd⟩ => ⟨he, hd.out⟩
/-- The numbers of one pair, each once, at most 65536 in all. -/
def gaps_Named.nameL (a : Int) : Nat → Int → List Int → List Int
  | 0, _, s => s
  | d + 1, i, s => if s.length < 65536 then gaps_Named.nameL a d (i + 1) (if (a + i) % 16777216 ∈ s then s else s ++ [(a + i) % 16777216]) else s
/-- What the map of those that were seen says of the list. -/
def gaps_Named.Seen (M : List (Int × Value)) (s : List Int) (c : Nat) : Prop := ∀ x, (∃ n : Int, Im.look M x = some (.int .i64 n) ∧ 1 ≤ n ∧ n ≤ c ∧ x ∈ s) ∨ (Im.look M x = none ∧ x ∉ s)
/-- What is known of the world: the list in its variable, the map in its own. -/
def gaps_Named.Rel (w0 : World) (g1 g2 c : Nat) (s : List Int) (W : World) : Prop := ∃ v b M, W.heap[g1]? = some (.cells #[v] 32 (0, 0)) ∧ W.heap[g2]? = some (.cells #[.map (some b)] 99 (0, 0)) ∧ Im.MapAt .u32 W b M ∧
  Kd.R (Kd.int .u32) 27 W w0.heap.size (fun _ => True) v s ∧ Below w0.heap.size w0 W ∧ w0.heap.size ≤ g1 ∧ w0.heap.size ≤ g2 ∧ w0.heap.size ≤ b ∧ s.length ≤ 65536 ∧ gaps_Named.Seen M s c
theorem gaps_Named.map_ne {W : World} {k : IntKind} {b : Nat} {M : List (Int × Value)} {base e size n : Nat} {v : Value} {xs : List Value} (h : Im.MapAt k W b M) (ho : W.ownsRow base e size v n xs) : some b ≠ v.ownBlock := by
  intro he
  obtain ⟨cells, hc⟩ := own_typed ho b he.symm
  obtain ⟨_, _, es, cl, h3, _⟩ := h
  rw [h3] at hc
  cases hc
theorem gaps_Named.map_blk {W : World} {k : IntKind} {b g : Nat} {M : List (Int × Value)} {t : TypeId} {cs : Array Value} (h : Im.MapAt k W b M) (hg : W.heap[g]? = some (.cells cs t (0, 0))) : b ≠ g := by
  rintro rfl
  obtain ⟨_, _, es, cl, h3, _⟩ := h
  rw [h3] at hg
  cases hg
theorem gaps_Named.Seen.old {M : List (Int × Value)} {s : List Int} {c : Nat} {x n : Int} (h : gaps_Named.Seen M s c) (hl : Im.look M x = some (.int .i64 n)) (h1 : 1 ≤ n) (h2 : n ≤ c) (hx : x ∈ s) : gaps_Named.Seen (Im.put M x (.int .i64 (n + 1))) s (c + 1) := by
  intro y
  rw [Im.look_put]
  by_cases hy : y = x
  · subst hy
    exact .inl ⟨n + 1, if_pos rfl, by omega, by omega, hx⟩
  · rw [if_neg hy]
    rcases h y with ⟨q, h3, h4, h5, h6⟩ | h3
    · exact .inl ⟨q, h3, h4, by omega, h6⟩
    · exact .inr h3
theorem gaps_Named.Seen.fresh {M : List (Int × Value)} {s : List Int} {c : Nat} {x : Int} (h : gaps_Named.Seen M s c) : gaps_Named.Seen (Im.put M x (.int .i64 1)) (s ++ [x]) (c + 1) := by
  intro y
  rw [Im.look_put]
  by_cases hy : y = x
  · subst hy
    exact .inl ⟨1, if_pos rfl, by omega, by omega, by simp⟩
  · rw [if_neg hy]
    rcases h y with ⟨q, h3, h4, h5, h6⟩ | ⟨h3, h4⟩
    · exact .inl ⟨q, h3, h4, by omega, by simp [h6]⟩
    · exact .inr ⟨h3, by simp [h4, hy]⟩
theorem gaps_Named.Seen.more {M : List (Int × Value)} {s : List Int} {c d : Nat} (h : gaps_Named.Seen M s c) (hd : c ≤ d) : gaps_Named.Seen M s d := by
  intro y
  rcases h y with ⟨q, h3, h4, h5, h6⟩ | h3
  · exact .inl ⟨q, h3, h4, by omega, h6⟩
  · exact .inr h3
theorem gaps_Named.wfu {a : Int} (h0 : 0 ≤ a) (h1 : a < 4294967296) : (Lit.int .u32 a).wf = true := by
  simp [Lit.wf, IntKind.min, IntKind.max, IntKind.signed, IntKind.bits]
  omega
set_option maxHeartbeats 8000000 in
set_option maxRecDepth 100000 in
theorem gaps_Named.closure (w0 : World) (g1 g2 c : Nat) (s0 : List Int) (W : World) (a n : Int) (hc : c < 9007199254740992) (hn0 : 0 ≤ n) (hn : n ≤ 8388608) (hI : gaps_Named.Rel w0 g1 g2 c s0 W) :
    Calls Try.prog 49 #[.int .u32 a, .int .i64 n, .pointer (some ⟨g1, 0, none⟩), .pointer (some ⟨g2, 0, none⟩)] W fun e w' => e = .returned (.tuple #[]) ∧ gaps_Named.Rel w0 g1 g2 (c + 8388608) (gaps_Named.nameL a n.toNat 0 s0) w' := by
  obtain ⟨N, rfl⟩ : ∃ N : Nat, n = N := ⟨n.toNat, by omega⟩
  rw [Int.toNat_natCast]
  have hz : ∀ W, (zeroValue 3).run Try.prog W = .ok (.int .i64 0) W := fun W => Try.zeroValue3 W
  have HI := Aside0.mk hI
  clear hI hn0
  go_enter Try.func49, Try.ntmps49
  go_wp2
  go_loopw [6] (fun vi wr => ∃ (i : Nat) (s : List Int), i ≤ N ∧ Aside0 (gaps_Named.nameL a (N - i) i s = gaps_Named.nameL a N 0 s0) ∧ Aside0 (gaps_Named.Rel w0 g1 g2 (c + i) s wr) ∧ vi = .int .i64 i) (fun vi _ => (N - (intOf vi).toNat))
  case atStart => exact ⟨0, s0, by omega, ⟨rfl⟩, HI, rfl⟩
  case round =>
    obtain ⟨i, s, hiN, HS, HR, rfl⟩ := hrel
    obtain ⟨v, b, M, hg1, hg2, hM, hO, hB, hb1, hb2, hb3, hsl, hS⟩ := HR.out
    have HM := Aside0.mk hM
    have HO := Aside0.mk hO
    have HB := Aside0.mk hB
    have HS2 := Aside0.mk hS
    have HG1 := Aside0.mk hg1
    have HG2 := Aside0.mk hg2
    have c1 : wr.cell? ⟨g1, 0, none⟩ = some v := (blk_cell hg1 0).trans rfl
    have c2 : wr.cell? ⟨g2, 0, none⟩ = some (.map (some b)) := (blk_cell hg2 0).trans rfl
    have hng : g1 ≠ g2 := fun e => by subst e; rw [hg1] at hg2; injection hg2 with h_; injection h_ with h_ h2_; exact absurd h2_ (by decide)
    have hbg1 := gaps_Named.map_blk hM hg1
    have hbg2 := gaps_Named.map_blk hM hg2
    obtain ⟨inner, hown⟩ := Kd.R_own hO
    have hbv := gaps_Named.map_ne hM hown
    have hg1v := Kd.R_ne hO hg1 (by decide)
    have hg2v := Kd.R_ne hO hg2 (by decide)
    obtain ⟨A, cap, hvs⟩ := Kd.R_slice hO
    subst hvs
    clear hM hO hB hS hg1 hg2 hown inner HR
    have HSL := Aside0.mk hsl
    by_cases hlt : i < N
    · by_cases hlen : s.length < 65536
      · obtain ⟨x, hx⟩ : ∃ x, (a + (i : Int)) % 16777216 = x := ⟨_, rfl⟩
        have hwx : (Lit.int .u32 x).wf = true := gaps_Named.wfu (by rw [← hx]; exact Int.emod_nonneg _ (by omega)) (by have := Int.emod_lt_of_pos (a + (i : Int)) (show (0 : Int) < 16777216 by omega); omega)
        have hst : gaps_Named.nameL a (N - i) i s = gaps_Named.nameL a (N - (i + 1)) ((i + 1 : Nat) : Int) (if x ∈ s then s else s ++ [x]) := by
          rw [show N - i = N - (i + 1) + 1 by omega, gaps_Named.nameL, if_pos hlen, hx, Int.natCast_add]; rfl
        have HS' := HS.out
        rw [hst] at HS'
        have hac : ∀ W', Calls Try.prog 14 #[.int .u32 a, .int .i64 (i : Int)] W' fun e w' => e = .returned (.int .u32 x) ∧ ∃ m, w' = W'.drewN m := fun W' => hx ▸ gaps_Named.add_calls a i W'
        have hlen2 : decide ((s.length : Int) < 65536) = true := decide_eq_true (by omega)
        have HLn := Aside0.mk hlen
        clear hst HS hx hlen hsl
        by_cases hxs : x ∈ s
        · rw [if_pos hxs] at HS'
          have HSn := Aside0.mk HS'
          clear HS'
          have hq := HS2.out x
          rcases hq with ⟨n, hl, hn1, hn2, _⟩ | ⟨_, hx2⟩
          case inr => exact absurd hxs hx2
          have hnb : n ≤ 9007199263129600 := by omega
          have hne1 : ((n + 1 : Int) == 1) = false := by rw [beq_eq_false_iff_ne]; omega
          have HL := Aside0.mk hl
          have tok1 : True := trivial
          clear hl
          go_wp2_with (first
            | (go_at_call 14; refine (hac _).mono ?_; rintro e w1 ⟨rfl, m, rfl⟩)
            | (at_lookup; have _t := tok1; refine Im.wpList_look _ rfl _ _ 99 rfl 27 3 .u32 Try.underlying99 Try.underlying27 (.int .i64 0) (hz _) b M rfl (HM.out.move rfl) x rfl hwx ?_; rw [HL.out, Option.getD_some]; clear tok1)
            | (at_mapUpdate; refine Im.wpList_put _ rfl _ _ _ 99 rfl 27 3 .u32 Try.underlying99 Try.underlying27 b M rfl (HM.out.move rfl) x (.int .i64 (n + 1)) rfl rfl hwx ?_; intro w2 hM2 hgr; have HM2 := Aside0.mk hM2; have HG1' : Aside0 (w2.heap[g1]? = _) := ⟨(hgr.block g1 (blk_lt HG1.out) (by simpa using Ne.symm hbg1)).trans HG1.out⟩; have HG2' : Aside0 (w2.heap[g2]? = _) := ⟨(hgr.block g2 (blk_lt HG2.out) (by simpa using Ne.symm hbg2)).trans HG2.out⟩; have HO' : Aside0 _ := ⟨Kd.R_grown1 (Kd.R_drewN HO.out m) rfl hgr hbv⟩; have HB' : Aside0 _ := ⟨pw_below_grown (pw_below_drewN HB.out m) (some b) HB.out.size hgr (fun k_ hk_ => by injection hk_ with hk_; omega)⟩; have c2' : w2.cell? ⟨g2, 0, none⟩ = some (.map (some b)) := (blk_cell HG2'.out 0).trans rfl; have tok2 : True := trivial; clear hM2 hgr c1 c2)
            | (at_lookup; have _t := tok2; refine Im.wpList_look _ rfl _ _ 99 rfl 27 3 .u32 Try.underlying99 Try.underlying27 (.int .i64 0) (hz _) b _ rfl HM2.out x rfl hwx ?_; rw [Im.look_put, if_pos rfl, Option.getD_some]; clear tok2))
          go_roundw
          case rel => exact ⟨i + 1, s, by omega, HSn, ⟨_, b, _, HG1'.out, HG2'.out, HM2.out, HO'.out, HB'.out, hb1, hb2, hb3, HSL.out, HS2.out.old HL.out hn1 hn2 hxs⟩, by go_num⟩
          case measure => simp [intOf]; omega
        · rw [if_neg hxs] at HS'
          have HSn := Aside0.mk HS'
          clear HS'
          have hq := HS2.out x
          rcases hq with ⟨n, _, _, _, hx2⟩ | ⟨hl, hx3⟩
          case inl => exact absurd hx2 hxs
          clear hxs hx3
          have HL := Aside0.mk hl
          have tok1 : True := trivial
          clear hl
          go_wp2_with (first
            | (go_at_call 14; refine (hac _).mono ?_; rintro e w1 ⟨rfl, m, rfl⟩)
            | (at_lookup; have _t := tok1; refine Im.wpList_look _ rfl _ _ 99 rfl 27 3 .u32 Try.underlying99 Try.underlying27 (.int .i64 0) (hz _) b M rfl (HM.out.move rfl) x rfl hwx ?_; rw [HL.out, Option.getD_none]; clear tok1)
            | (at_mapUpdate; refine Im.wpList_put _ rfl _ _ _ 99 rfl 27 3 .u32 Try.underlying99 Try.underlying27 b M rfl (HM.out.move rfl) x (.int .i64 1) rfl rfl hwx ?_; intro w2 hM2 hgr; have HM2 := Aside0.mk hM2; have HG1' : Aside0 (w2.heap[g1]? = _) := ⟨(hgr.block g1 (blk_lt HG1.out) (by simpa using Ne.symm hbg1)).trans HG1.out⟩; have HG2' : Aside0 (w2.heap[g2]? = _) := ⟨(hgr.block g2 (blk_lt HG2.out) (by simpa using Ne.symm hbg2)).trans HG2.out⟩; have HO' : Aside0 _ := ⟨Kd.R_grown1 (Kd.R_drewN HO.out m) rfl hgr hbv⟩; have HB' : Aside0 _ := ⟨pw_below_grown (pw_below_drewN HB.out m) (some b) HB.out.size hgr (fun k_ hk_ => by injection hk_ with hk_; omega)⟩; have c2' : w2.cell? ⟨g2, 0, none⟩ = some (.map (some b)) := (blk_cell HG2'.out 0).trans rfl; have c1' : w2.cell? ⟨g1, 0, none⟩ = some (.slice A s.length cap) := (blk_cell HG1'.out 0).trans rfl; have tok2 : True := trivial; clear hM2 hgr c1 c2)
            | (at_lookup; have _t := tok2; refine Im.wpList_look _ rfl _ _ 99 rfl 27 3 .u32 Try.underlying99 Try.underlying27 (.int .i64 0) (hz _) b _ rfl HM2.out x rfl hwx ?_; rw [Im.look_put, if_pos rfl, Option.getD_some]; clear tok2)
            | ((with_reducible refine gate_builtin (b := .append) (xs := #[.tmp 29, .tmp 31]) rfl ?_); at_builtin; refine Kd.R_append (Kd.int .u32) (w0 := w0) w0.heap.size rfl (.tmp 29) (.tmp 31) 32 27 (.int .u32 0) 4 rfl Try.underlying32 info27 rfl (by decide) (by omega) (.slice A s.length cap) s x [.int .u32 x] (fun _ => True) (fun _ => False) rfl rfl ?aP (fun _ hk => hk.elim) ?aF ?aO ?aB ?aS ?aL ?_; (case aP => exact rfl); (case aB => exact HB'.out); (case aF => exact (fun _ _ => trivial)); (case aO => exact HO'.out); (case aS => exact HB'.out.size); (case aL => have := HLn.out; omega); intro v3 w3 ho hb hgr3 hat; obtain ⟨A3, cap3, hv3⟩ := Kd.R_slice ho; subst hv3; have HO3 := Aside0.mk ho; have HB3 := Aside0.mk hb; have HG13 : Aside0 (w3.heap[g1]? = _) := ⟨(hgr3.block g1 (blk_lt HG1'.out) hg1v).trans HG1'.out⟩; have HG23 : Aside0 (w3.heap[g2]? = _) := ⟨(hgr3.block g2 (blk_lt HG2'.out) hg2v).trans HG2'.out⟩; have HM3 : Aside0 (Im.MapAt .u32 w3 b _) := ⟨HM2.out.move (hgr3.block b HM2.out.lt hbv)⟩; have c3 : w3.cell? ⟨g1, 0, none⟩ = some (.slice A s.length cap) := (blk_cell HG13.out 0).trans rfl; have f3 : w3.frozen? ⟨g1, 0, none⟩ = false := blk_frozen HG13.out 0; clear ho hb hgr3 hat c1' c2'))
          go_roundw
          case rel => exact ⟨i + 1, s ++ [x], by omega, HSn, ⟨_, b, _, blk_put (cs := #[.slice A s.length cap]) HG13.out 0 _ rfl, blk_far HG23.out hng.symm _, HM3.out.move (Below.heap_setCell _ _ _ _ hbg1), (by have h_ := HO3.out; rw [List.length_append] at h_; exact Kd.R_set h_ HG13.out (by intro q hq; simp [Kd.int, Kd.scalar] at hq; subst hq; decide) 0 _), below_set HB3.out hb1, hb1, hb2, hb3, by have := HLn.out; simp; omega, HS2.out.fresh⟩, by go_num⟩
          case measure => simp [intOf]; omega
      · have hl2 : decide ((s.length : Int) < 65536) = false := decide_eq_false (by omega)
        have hst : gaps_Named.nameL a (N - i) i s = s := by
          rw [show N - i = N - (i + 1) + 1 by omega, gaps_Named.nameL, if_neg hlen]
        have hfin := HS.out
        rw [hst] at hfin
        have HF := Aside0.mk hfin
        clear hst hfin HS hlen
        go_wp2
        go_end0
        exact ⟨rfl, HF.out ▸ ⟨_, b, M, HG1.out, HG2.out, HM.out, HO.out, HB.out, hb1, hb2, hb3, hsl, HS2.out.more (by omega)⟩⟩
    · have hl2 : decide ((i : Int) < (N : Int)) = false := decide_eq_false (by omega)
      have hst : gaps_Named.nameL a (N - i) i s = s := by
        rw [show N - i = 0 by omega, gaps_Named.nameL]
      have hfin := HS.out
      rw [hst] at hfin
      have HF := Aside0.mk hfin
      clear hst hfin HS
      go_wp2
      go_end0
      exact ⟨rfl, HF.out ▸ ⟨_, b, M, HG1.out, HG2.out, HM.out, HO.out, HB.out, hb1, hb2, hb3, hsl, HS2.out.more (by omega)⟩⟩
theorem gaps_Named.start (w : World) (o1 : Obj) : gaps_Named.Rel w (w.heap.size + 1) (w.heap.size + 1 + 1 + 1) 0 [] ((((w.alloc o1).alloc (.cells #[.slice none 0 0] 32)).alloc (.map #[] 0)).alloc (.cells #[.map (some (w.heap.size + 1 + 1))] 99)) := by
  have s1 : (w.alloc o1).heap.size = w.heap.size + 1 := by simp
  have s2 : ((w.alloc o1).alloc (.cells #[.slice none 0 0] 32)).heap.size = w.heap.size + 1 + 1 := by simp
  have s3 : (((w.alloc o1).alloc (.cells #[.slice none 0 0] 32)).alloc (.map #[] 0)).heap.size = w.heap.size + 1 + 1 + 1 := by simp
  have h1 : ((w.alloc o1).alloc (.cells #[.slice none 0 0] 32)).heap[w.heap.size + 1]? = some (.cells #[.slice none 0 0] 32 (0, 0)) := by rw [← s1]; exact blk_new _ _
  have h2 : Im.MapAt .u32 (((w.alloc o1).alloc (.cells #[.slice none 0 0] 32)).alloc (.map #[] 0)) (w.heap.size + 1 + 1) [] := by rw [← s2]; exact Im.MapAt.new _ _
  refine ⟨.slice none 0 0, w.heap.size + 1 + 1, [], ?_, ?_, ?_, Kd.R_nil _ _ _ _ _, ?_, by omega, by omega, by omega, by simp, fun x => .inr ⟨rfl, by simp⟩⟩
  · exact (Below.heap_alloc _ _ _ (by rw [s3]; omega)).trans ((Below.heap_alloc _ _ _ (by rw [s2]; omega)).trans h1)
  · rw [← s3]; exact blk_new _ _
  · exact h2.move (Below.heap_alloc _ _ _ (by rw [s3]; omega))
  · exact below_alloc (below_alloc (below_alloc (below_alloc (Below.refl _ _) _) _) _) _
def gaps_Named.f (a0_0 : Int) (a0_1 : Int) (a0_2 : Int) (a0_3 : Int) (a0_4 : Int) (l0_5 : List Int) (a0_6 : Bool) (a0_7 : ByteArray) : Option (List Int) :=
  if a0_0 = 11 ∨ a0_0 = 12 then (if l0_5.length < 1073741824 then some (gaps_pairs.pairsL (fun s a n => gaps_Named.nameL a n.toNat 0 s) l0_5 []) else none) else some []
set_option maxHeartbeats 4000000 in
set_option maxRecDepth 100000 in
theorem gaps_Named.calls (a0_0 : Int) (a0_1 : Int) (a0_2 : Int) (a0_3 : Int) (a0_4 : Int) (A0_5 : Option Addr) (c0_5 : Nat) (l0_5 : List Int) (a0_6 : Bool) (a0_7 : ByteArray) (r : List Int) (w : World) (hr0_5 : Kd.C (Kd.int .u32) w A0_5 l0_5.length l0_5) (hc0_5 : l0_5.length ≤ c0_5) (h : gaps_Named.f a0_0 a0_1 a0_2 a0_3 a0_4 l0_5 a0_6 a0_7 = some r) :
    Calls Try.prog 29 #[.agg #[.int .i64 a0_0, .int .i64 a0_1, .int .u32 a0_2, .int .u32 a0_3, .int .u32 a0_4, .slice A0_5 l0_5.length c0_5, .bool a0_6, .string a0_7]] w fun e w' => ∃ v0_ : Value, e = .returned (v0_) ∧ Kd.R (Kd.int .u32) 27 w' w.heap.size (fun _ => True) v0_ r ∧ Below w.heap.size w w' := by
  have hu := Try.underlying67
  unfold gaps_Named.f at h
  by_cases hk : a0_0 = 11 ∨ a0_0 = 12
  · rw [if_pos hk] at h
    by_cases hlen : l0_5.length < 1073741824
    case neg => rw [if_neg hlen] at h; cases h
    rw [if_pos hlen] at h
    have hr : gaps_pairs.pairsL (fun s a n => gaps_Named.nameL a n.toNat 0 s) l0_5 [] = r := Option.some.inj h
    clear h
    have hmm := @run_makeMap Try.prog
    have eg : ∀ args w, (callFunc 49 args).run Try.prog w = .ok (.enter 49 args) w := Go.Proofs.enters_of Try.func49 (by kernel_rfl) rfl
    have hp := fun (W1 : World) (g1 g2 : Nat) (hB : Below w.heap.size w W1) (h0 : gaps_Named.Rel w g1 g2 0 [] W1) => gaps_pairs.pairs_any (fun s a n => gaps_Named.nameL a n.toNat 0 s) 49 #[.pointer (some ⟨g1, 0, none⟩), .pointer (some ⟨g2, 0, none⟩)] (fun q s W => gaps_Named.Rel w g1 g2 (q * 8388608) s W) A0_5 c0_5 l0_5 W1 [] eg hlen
      ⟨fun q s W a n hq _ _ hn0 hn hI => (gaps_Named.closure w g1 g2 (q * 8388608) s W a n (by omega) hn0 hn hI).mono fun e w' ⟨he, hw⟩ => ⟨he, by rw [Nat.add_mul]; exact hw⟩⟩
      ⟨fun q s W ⟨v, b, M, h1, h2, h3, h4, h5, h6, h7, h8, h9, h10⟩ => ⟨v, b, M, h1, h2, h3, h4, h5, h6, h7, h8, h9, h10.more (by omega)⟩⟩
      ⟨fun q s W n ⟨v, b, M, h1, h2, h3, h4, h5, h6⟩ => ⟨v, b, M, h1, h2, h3.move rfl, Kd.R_drewN h4 n, pw_below_drewN h5 n, h6⟩⟩
      ⟨fun q s W ⟨v, b, M, h1, h2, h3, h4, h5, h6⟩ => Kd.C_below hr0_5 h5⟩ ⟨by simpa using h0⟩
    rw [hr] at hp
    have HP := Aside0.mk hp
    clear hp hr hlen hr0_5 hc0_5 eg
    rcases hk with hk | hk
    · subst hk
      go_enter Try.func29, Try.ntmps29
      go_wp2_with fail
      refine (HP.out _ _ _ (below_alloc (below_alloc (below_alloc (below_alloc (Below.refl _ _) _) _) _) _) (gaps_Named.start w _)).mono ?_
      rintro e w1 ⟨rfl, q, v, b, M, h1, h2, h3, h4, h5, h6⟩
      obtain ⟨A, cap, hv⟩ := Kd.R_slice h4
      subst hv
      have c1 : w1.cell? ⟨w.heap.size + 1, 0, none⟩ = some (.slice A r.length cap) := (blk_cell h1 0).trans rfl
      have H4 := Aside0.mk h4
      have H5 := Aside0.mk h5
      clear h1 h2 h3 h4 h5 h6
      go_wp2
      go_ret
      exact ⟨_, rfl, H4.out, H5.out⟩
    · subst hk
      go_enter Try.func29, Try.ntmps29
      go_wp2_with fail
      refine (HP.out _ _ _ (below_alloc (below_alloc (below_alloc (below_alloc (Below.refl _ _) _) _) _) _) (gaps_Named.start w _)).mono ?_
      rintro e w1 ⟨rfl, q, v, b, M, h1, h2, h3, h4, h5, h6⟩
      obtain ⟨A, cap, hv⟩ := Kd.R_slice h4
      subst hv
      have c1 : w1.cell? ⟨w.heap.size + 1, 0, none⟩ = some (.slice A r.length cap) := (blk_cell h1 0).trans rfl
      have H4 := Aside0.mk h4
      have H5 := Aside0.mk h5
      clear h1 h2 h3 h4 h5 h6
      go_wp2
      go_ret
      exact ⟨_, rfl, H4.out, H5.out⟩
  · rw [if_neg hk] at h
    obtain rfl := Option.some.inj h
    have hk1 : (a0_0 != 11) = true := by simpa using fun e => hk (.inl e)
    have hk2 : (a0_0 != 12) = true := by simpa using fun e => hk (.inr e)
    clear h hk hr0_5 hc0_5
    go_enter Try.func29, Try.ntmps29
    go_wp2
    go_ret
    exact ⟨_, rfl, Kd.R_nil _ _ _ _ _, below_alloc (Below.refl _ _) _⟩

end Go.Proofs.Ytiiljdglbfgdbaa.S
