/- The map of what happens: whichever order its entries are put in, it holds them all. -/
import Derived.Test.YtngoenbdimlppaaM6
namespace Go.Proofs.Ytngoenbdimlppaa.Svc
open Go.RowKit Go.Proofs.YtngoenbdimlppaaW.PrintWords Go.Proofs.YtngoenbdimlppaaW.PrintLast Go.Proofs.YtngoenbdimlppaaW.PrintMore
set_option linter.unusedVariables false
set_option linter.unusedSimpArgs false
set_option maxRecDepth 100000

theorem laid : laidOutB Try.prog = true := by kernel_rfl
theorem phase_row : 74 < Try.prog.types.size := of_decide_eq_true (by kernel_rfl)
theorem phase_law : Maps.Keyed Try.prog 74 := Maps.Keyed.of_law (deep_law_laid laid (m := 2) (by omega) phase_row (by kernel_rfl) (by kernel_rfl))

abbrev kex (n : Int) : Value := .agg #[.string { data := #[101, 120, 105, 116] }, .int .u8 n]
abbrev kti (n : Int) : Value := .agg #[.string { data := #[116, 105, 99, 107] }, .int .u8 n]
abbrev fnv (n : Nat) : Value := .func (.func n) #[] #[]
/-- The map's entries. -/
def ent : Nat → Value × Value
  | 0 => (kex 2, fnv 36)
  | 1 => (kex 3, fnv 37)
  | 2 => (kex 4, fnv 38)
  | 3 => (kti 2, fnv 39)
  | 4 => (kti 4, fnv 40)
  | 5 => (kti 1, fnv 41)
  | _ => (kti 5, fnv 41)
theorem seven {k : Nat} (h : k < 7) : k = 0 ∨ k = 1 ∨ k = 2 ∨ k = 3 ∨ k = 4 ∨ k = 5 ∨ k = 6 := by omega
theorem ent_key (k : Nat) (h : k < 7) : ∃ l, keyOf Try.prog 74 (ent k).1 = some l := by
  rcases seven h with rfl | rfl | rfl | rfl | rfl | rfl | rfl <;> exact Option.isSome_iff_exists.1 (by kernel_rfl)
theorem ent_inj (k k' : Nat) (h : k < 7) (h' : k' < 7) (e : (ent k).1 = (ent k').1) : k = k' := by
  rcases seven h with rfl | rfl | rfl | rfl | rfl | rfl | rfl <;> rcases seven h' with rfl | rfl | rfl | rfl | rfl | rfl | rfl <;> first | rfl | (exfalso; simp [ent] at e)

/-- Block b is a map that holds just the entries that m tells. -/
def MapIs (w : World) (b : Nat) (m : Nat → Bool) : Prop :=
  ∃ es clock, w.heap[b]? = some (.map es clock) ∧ (∀ e ∈ es.toList, ∃ k, k < 7 ∧ m k = true ∧ (e.key, e.val) = ent k) ∧ (∀ k, k < 7 → m k = true → ∃ e ∈ es.toList, (e.key, e.val) = ent k)
def upd (m : Nat → Bool) (k : Nat) (j : Nat) : Bool := if j = k then true else m j

theorem map_insert (w : World) (b : Nat) (m : Nat → Bool) (k : Nat) (h : k < 7) (hk : m k = false) (hm : MapIs w b m) :
    ∃ w', (Instr.mapUpdate 71 (.map (some b)) (ent k).1 (ent k).2).run Try.prog w = .ok () w' ∧ MapIs w' b (upd m k) ∧ Stp b w w' := by
  obtain ⟨es, clock, hb, h1, h2⟩ := hm
  obtain ⟨l, hl⟩ := ent_key k h
  have hks : ∀ e ∈ es.toList, ∃ l, keyOf Try.prog 74 e.key = some l := fun e he => by
    obtain ⟨j, hj, -, hje⟩ := h1 e he
    have : e.key = (ent j).1 := congrArg Prod.fst hje
    rw [this]; exact ent_key j hj
  rcases phase_law.find w hl es.toList hks with ⟨hf, -⟩ | ⟨j, e, -, hje, hke⟩
  · obtain ⟨w', hr, hw, hs⟩ := run_insert_new (val := (ent k).2) Try.underlying71 hb (phase_law.check w false hl) hf
    refine ⟨w', hr, ⟨_, _, hw, ?_, ?_⟩, hs⟩
    · intro e he
      simp only [Array.toList_push, List.mem_append, List.mem_singleton] at he
      rcases he with he | rfl
      · obtain ⟨j, hj, hmj, hje⟩ := h1 e he
        exact ⟨j, hj, by unfold upd; split <;> simp_all, hje⟩
      · exact ⟨k, h, by simp [upd], rfl⟩
    · intro j hj hmj
      by_cases e : j = k
      · subst e
        exact ⟨⟨(ent j).1, (ent j).2, clock⟩, by simp, rfl⟩
      · obtain ⟨e', he', hh⟩ := h2 j hj (by simpa [upd, e] using hmj)
        exact ⟨e', by simp; exact .inl (Array.mem_toList_iff.1 he'), hh⟩
  · obtain ⟨j', hj', hmj', hje'⟩ := h1 e (List.mem_of_getElem? hje)
    have e1 : e.key = (ent j').1 := congrArg Prod.fst hje'
    have := ent_inj k j' h hj' (hke.symm.trans e1)
    subst this
    rw [hk] at hmj'; cases hmj'

theorem map_lookup (w : World) (b : Nat) (k : Nat) (h : k < 7) (hm : MapIs w b (fun _ => true)) :
    (Instr.lookup 71 (.map (some b)) (ent k).1 false).run Try.prog w = .ok (ent k).2 w := by
  obtain ⟨es, clock, hb, h1, h2⟩ := hm
  obtain ⟨l, hl⟩ := ent_key k h
  have hks : ∀ e ∈ es.toList, ∃ l, keyOf Try.prog 74 e.key = some l := fun e he => by
    obtain ⟨j, hj, -, hje⟩ := h1 e he
    have : e.key = (ent j).1 := congrArg Prod.fst hje
    rw [this]; exact ent_key j hj
  rcases phase_law.find w hl es.toList hks with ⟨-, hn⟩ | ⟨j, e, hf, hje, hke⟩
  · obtain ⟨e, he, hee⟩ := h2 k h rfl
    exact absurd (congrArg Prod.fst hee) (hn e he)
  · obtain ⟨j', hj', -, hje'⟩ := h1 e (List.mem_of_getElem? hje)
    have e1 : e.key = (ent j').1 := congrArg Prod.fst hje'
    have := ent_inj k j' h hj' (hke.symm.trans e1)
    subst this
    have e2 : e.val = (ent k).2 := congrArg Prod.snd hje'
    rw [e2] at hf
    exact run_lookup_found w Try.underlying71 hb false (phase_law.check w _ hl) hf

/-- The region's operations. -/
noncomputable def hops : Array Oper := match Try.f28.body with
  | some (.seq _ (.seq (.region _ ops _) _)) => ops
  | _ => #[]
def ltd (m : Nat → Bool) : Array Bool := #[true, true, m 0, true, m 1, true, m 2, true, m 3, true, m 4, true, m 5, true, m 6, false, false]
def ltd2 (x y : Bool) : Array Bool := #[true, true, true, true, true, true, true, true, true, true, true, true, true, true, true, x, y]
abbrev hact (b : Nat) (x y : Value) : Act := { tmps := #[x, .map (some b), kex 2, kex 3, kex 4, kti 2, kti 4, kti 1, kti 5, y], defers := [] }
theorem ltd_set (m : Nat → Bool) (k : Nat) (h : k < 7) : (ltd m).setIfInBounds (2 + 2 * k) true = ltd (upd m k) := by
  rcases seven h with rfl | rfl | rfl | rfl | rfl | rfl | rfl <;> rfl
def fnOf (k : Nat) : Nat := match k with | 0 => 36 | 1 => 37 | 2 => 38 | 3 => 39 | 4 => 40 | _ => 41
theorem ent_fn (k : Nat) (h : k < 7) : (ent k).2 = fnv (fnOf k) := by
  rcases seven h with rfl | rfl | rfl | rfl | rfl | rfl | rfl <;> rfl
theorem op_insert (k : Nat) (h : k < 7) : ∃ o, hops[2 + 2 * k]? = some o ∧ o.guard = none ∧ o.dst = none ∧ o.op = .insert 71 (.tmp 1) (.tmp (2 + k)) (.func (fnOf k)) ∧ (o.after.all fun e => e.on == 0 || e.on == 1 + 2 * k) = true := by
  rcases seven h with rfl | rfl | rfl | rfl | rfl | rfl | rfl <;> exact ⟨_, rfl, rfl, rfl, rfl, by kernel_rfl⟩
theorem op_15 : ∃ o, hops[15]? = some o ∧ o.guard = none ∧ o.dst = some 9 ∧ o.op = .move (.tmp 1) ∧ (∀ k, k < 7 → (o.after.any fun e => e.on == 2 + 2 * k && Region.binds .any e) = true) ∧ (o.after.all fun e => decide (e.on < 15)) = true :=
  ⟨_, rfl, rfl, rfl, rfl, fun k h => by rcases seven h with rfl | rfl | rfl | rfl | rfl | rfl | rfl <;> kernel_rfl, by kernel_rfl⟩
theorem op_16 : ∃ o, hops[16]? = some o ∧ o.guard = none ∧ o.dst = some 0 ∧ o.op = .assign (.tmp 9) ∧ (o.after.any fun e => e.on == 15 && Region.binds .any e) = true ∧ (o.after.all fun e => decide (e.on < 16)) = true :=
  ⟨_, rfl, rfl, rfl, rfl, by kernel_rfl, by kernel_rfl⟩
theorem ready_lt {listed : Array Bool} {i : Nat} (h : i ∈ Region.ready .any hops listed) : i < 17 := by
  obtain ⟨-, o, ho, -⟩ := mem_ready.1 h
  exact (Array.getElem?_eq_some_iff.1 ho).1
theorem ready_ins (m : Nat → Bool) (k : Nat) (h : k < 7) (hk : m k = false) : 2 + 2 * k ∈ Region.ready .any hops (ltd m) := by
  obtain ⟨o, ho, -, -, -, ha⟩ := op_insert k h
  rw [mem_ready]
  refine ⟨by rcases seven h with rfl | rfl | rfl | rfl | rfl | rfl | rfl <;> exact hk, o, ho, fun e he _ => ?_⟩
  have := (Array.all_eq_true_iff_forall_mem.1 ha) e he
  simp only [Bool.or_eq_true, beq_iff_eq] at this
  rcases this with h0 | h1
  · rw [h0]; rfl
  · rw [h1]; rcases seven h with rfl | rfl | rfl | rfl | rfl | rfl | rfl <;> rfl
theorem ready_cases (m : Nat → Bool) (i : Nat) (h : i ∈ Region.ready .any hops (ltd m)) : (∃ k, k < 7 ∧ i = 2 + 2 * k ∧ m k = false) ∨ (i = 15 ∧ ∀ k, k < 7 → m k = true) := by
  have hlt := ready_lt h
  obtain ⟨hu, o, ho, ha⟩ := mem_ready.1 h
  by_cases h15 : i = 15
  · subst h15
    refine .inr ⟨rfl, fun k hk => ?_⟩
    obtain ⟨o', ho', -, -, -, hall, -⟩ := op_15
    rw [ho] at ho'; cases ho'
    obtain ⟨e, he, hh⟩ := Array.any_eq_true'.1 (hall k hk)
    simp only [Bool.and_eq_true, beq_iff_eq] at hh
    have := ha e he hh.2
    rw [hh.1] at this
    rcases seven hk with rfl | rfl | rfl | rfl | rfl | rfl | rfl <;> exact this
  by_cases h16 : i = 16
  · subst h16
    obtain ⟨o', ho', -, -, -, hall, -⟩ := op_16
    rw [ho] at ho'; cases ho'
    obtain ⟨e, he, hh⟩ := Array.any_eq_true'.1 hall
    simp only [Bool.and_eq_true, beq_iff_eq] at hh
    have := ha e he hh.2
    rw [hh.1] at this
    exact absurd (show false = true from this) (by decide)
  left
  rcases (by omega : i = 0 ∨ i = 1 ∨ i = 2 ∨ i = 3 ∨ i = 4 ∨ i = 5 ∨ i = 6 ∨ i = 7 ∨ i = 8 ∨ i = 9 ∨ i = 10 ∨ i = 11 ∨ i = 12 ∨ i = 13 ∨ i = 14) with rfl | rfl | rfl | rfl | rfl | rfl | rfl | rfl | rfl | rfl | rfl | rfl | rfl | rfl | rfl
  all_goals first
    | exact absurd (show true = false from hu) (by decide)
    | exact ⟨0, by omega, rfl, hu⟩ | exact ⟨1, by omega, rfl, hu⟩ | exact ⟨2, by omega, rfl, hu⟩ | exact ⟨3, by omega, rfl, hu⟩ | exact ⟨4, by omega, rfl, hu⟩ | exact ⟨5, by omega, rfl, hu⟩ | exact ⟨6, by omega, rfl, hu⟩

section
variable {Q : Exit → Act → World → Prop}
theorem step_insert (b : Nat) (x y : Value) (k : Nat) (h : k < 7) (m : Nat → Bool) (w : World) (hk : m k = false) (hm : MapIs w b m) (K : Act → World → Prop)
    (hK : ∀ w', MapIs w' b (upd m k) → Stp b w w' → K (hact b x y) w') : wpOp Try.prog hops Q (2 + 2 * k) K (hact b x y) w := by
  obtain ⟨o, ho, hg, hd, hop, -⟩ := op_insert k h
  obtain ⟨w', hr, hm', hs⟩ := map_insert w b m k h hk hm
  have hev : (hact b x y).eval (.tmp (2 + k)) = (ent k).1 := by rcases seven h with rfl | rfl | rfl | rfl | rfl | rfl | rfl <;> rfl
  have hef : (hact b x y).eval (.func (fnOf k)) = (ent k).2 := by rw [ent_fn k h]; rfl
  have hem : (hact b x y).eval (.tmp 1) = .map (some b) := rfl
  unfold wpOp
  simp only [ho, Region.wanted, hg, if_true]
  refine .inl ?_
  unfold Oper.wp
  simp only [execOp, hop, hem, hev, hef]
  simp [hr, Result.andThen]
  simp only [Oper.upon, hd]
  exact hK w' hm' hs
theorem step_15 (b : Nat) (x y : Value) (w : World) (K : Act → World → Prop) (hK : K (hact b x (.map (some b))) w) : wpOp Try.prog hops Q 15 K (hact b x y) w := by
  obtain ⟨o, ho, hg, hd, hop, -⟩ := op_15
  have hem : (hact b x y).eval (.tmp 1) = .map (some b) := rfl
  unfold wpOp
  simp only [ho, Region.wanted, hg, if_true]
  refine .inl ?_
  unfold Oper.wp
  simp only [execOp, hop, hem]
  simp [Result.andThen]
  simp only [Oper.upon, hd]
  exact hK
theorem step_16 (b : Nat) (x y : Value) (w : World) (K : Act → World → Prop) (hK : K (hact b y y) w) : wpOp Try.prog hops Q 16 K (hact b x y) w := by
  obtain ⟨o, ho, hg, hd, hop, -⟩ := op_16
  have hem : (hact b x y).eval (.tmp 9) = y := rfl
  unfold wpOp
  simp only [ho, Region.wanted, hg, if_true]
  refine .inl ?_
  unfold Oper.wp
  simp only [execOp, hop, hem]
  simp [Result.andThen]
  simp only [Oper.upon, hd]
  exact hK
def remn (m : Nat → Bool) : Nat := (if m 0 then 0 else 1) + (if m 1 then 0 else 1) + (if m 2 then 0 else 1) + (if m 3 then 0 else 1) + (if m 4 then 0 else 1) + (if m 5 then 0 else 1) + (if m 6 then 0 else 1)
theorem remn_upd (m : Nat → Bool) (k : Nat) (h : k < 7) (hk : m k = false) : remn (upd m k) + 1 = remn m := by
  rcases seven h with rfl | rfl | rfl | rfl | rfl | rfl | rfl <;> simp [remn, upd, hk] <;> omega
theorem ready_15 (m : Nat → Bool) (h : ∀ k, k < 7 → m k = true) : 15 ∈ Region.ready .any hops (ltd m) := by
  obtain ⟨o, ho, -, -, -, -, ha⟩ := op_15
  have e : ltd m = ltd2 false false := by simp [ltd, ltd2, h]
  rw [mem_ready, e]
  refine ⟨rfl, o, ho, fun e he _ => ?_⟩
  have := (Array.all_eq_true_iff_forall_mem.1 ha) e he
  have hlt : e.on < 15 := by simpa using this
  rcases (by omega : e.on = 0 ∨ e.on = 1 ∨ e.on = 2 ∨ e.on = 3 ∨ e.on = 4 ∨ e.on = 5 ∨ e.on = 6 ∨ e.on = 7 ∨ e.on = 8 ∨ e.on = 9 ∨ e.on = 10 ∨ e.on = 11 ∨ e.on = 12 ∨ e.on = 13 ∨ e.on = 14) with q | q | q | q | q | q | q | q | q | q | q | q | q | q | q <;> rw [q] <;> rfl
theorem MapIs.all {w : World} {b : Nat} {m : Nat → Bool} (h : MapIs w b m) (hm : ∀ k, k < 7 → m k = true) : MapIs w b (fun _ => true) := by
  obtain ⟨es, clock, hb, h1, h2⟩ := h
  exact ⟨es, clock, hb, fun e he => (let ⟨k, hk, _, hh⟩ := h1 e he; ⟨k, hk, rfl, hh⟩), fun k hk _ => h2 k hk (hm k hk)⟩
theorem ins_any (b : Nat) : ∀ (fuel : Nat) (m : Nat → Bool) (w : World), remn m + 2 ≤ fuel → MapIs w b m →
    (∀ w', MapIs w' b (fun _ => true) → Stp b w w' → Q .normal (hact b (.map (some b)) (.map (some b))) w') → wpAny Try.prog .any hops Q fuel (ltd m) (hact b (.map none) undef) w
  | 0, _, _, hf, _, _ => by omega
  | fuel + 1, m, w, hf, hm, hQ => by
    refine ⟨fun h0 => ?_, fun i hi => ?_⟩
    · exfalso
      by_cases ha : ∀ k, k < 7 → m k = true
      · have := ready_15 m ha; rw [h0] at this; cases this
      · have : ∃ k, k < 7 ∧ m k = false := by
          by_cases hx : ∃ k, k < 7 ∧ m k = false
          · exact hx
          · exfalso; apply ha; intro k hk
            cases hmk : m k
            · exact absurd ⟨k, hk, hmk⟩ hx
            · rfl
        obtain ⟨k, hk, hmk⟩ := this
        have := ready_ins m k hk hmk; rw [h0] at this; cases this
    · rcases ready_cases m i hi with ⟨k, hk, rfl, hmk⟩ | ⟨rfl, ha⟩
      · refine step_insert b _ _ k hk m w hmk hm _ fun w' hm' hs => ?_
        rw [ltd_set m k hk]
        have := remn_upd m k hk hmk
        exact ins_any b fuel (upd m k) w' (by omega) hm' fun w2 h2 s2 => hQ w2 h2 (hs.trans s2)
      · refine step_15 b _ _ w _ ?_
        have e : (ltd m).setIfInBounds 15 true = ltd2 true false := by simp [ltd, ltd2, ha]
        rw [e]
        obtain ⟨f, rfl⟩ : ∃ f, fuel = f + 1 := ⟨fuel - 1, by omega⟩
        refine wpAny_all (rs := [16]) (by kernel_rfl) (by simp) fun i hi => ?_
        obtain rfl : i = 16 := by simpa using hi
        refine step_16 b _ _ w _ ?_
        have e : (ltd2 true false).setIfInBounds 16 true = ltd2 true true := rfl
        rw [e]
        exact wpAny_done (by kernel_rfl) (hQ w (hm.all ha) (Stp.refl _ _)) f
end
theorem map_made (w : World) : MapIs (w.alloc (.map #[] 0)) w.heap.size (fun _ => false) :=
  ⟨#[], 0, blk_new w _, fun e he => by simp at he, fun k hk h => by cases h⟩

theorem run_build74 (a : Act) (o : Oper) (v : ByteArray) (n : Int) (hop : o.op = .build 74 #[(0, .const (.string v)), (1, .const (.int .u8 n))]) (w : World) : (execOp a.eval o).run Try.prog w = .ok (.value (.agg #[.string v, .int .u8 n])) w := by
  have hu := Try.underlying74
  unfold execOp
  simp only [hop]
  first | (go_simp; done) | (go_simp; rfl)
theorem op_0 : ∃ o, hops[0]? = some o ∧ o.guard = none ∧ o.dst = some 1 ∧ o.op = .makeMap 71 none := ⟨_, rfl, rfl, rfl, rfl⟩
theorem step_0 {Q : Exit → Act → World → Prop} (w : World) (K : Act → World → Prop) (hK : K (hact w.heap.size (.map none) undef) (w.alloc (.map #[] 0))) :
    wpOp Try.prog hops Q 0 K { tmps := #[.map none, undef, kex 2, kex 3, kex 4, kti 2, kti 4, kti 1, kti 5, undef], defers := [] } w := by
  obtain ⟨o, ho, hg, hd, hop⟩ := op_0
  unfold wpOp
  simp only [ho, Region.wanted, hg, if_true]
  refine .inl ?_
  unfold Oper.wp
  simp only [execOp, hop]
  simp [run_makeMap, Result.andThen]
  simp only [Oper.upon, hd]
  exact hK
theorem happens_region {Q : Exit → Act → World → Prop} (hQp : ∀ c (a : Act) d v w, Q (.panic c) (a.put d v) w → Q (.panic c) a w) (w : World)
    (hQ : ∀ b w', w.heap.size ≤ b → MapIs w' b (fun _ => true) → Below w.heap.size w w' → Q .normal (hact b (.map (some b)) (.map (some b))) w') :
    (Code.region 1 hops true).wp Try.prog Q { tmps := #[.map none, undef, undef, undef, undef, undef, undef, undef, undef, undef], defers := [] } w := by
  refine wp_region_any (by kernel_rfl) ?_
  show wpAny Try.prog .any hops Q 17 (Array.replicate 17 false) _ _
  refine wpAny_take (i := 1) (oi := (hops[1]?).get!) (v := kex 2) rfl (by kernel_rfl) (by kernel_rfl) (by kernel_rfl) (fun _ _ _ h => hQp _ _ _ _ _ h) (.inl ⟨rfl, fun w => run_build74 _ _ _ _ rfl w⟩) ?_
  refine wpAny_take (i := 3) (oi := (hops[3]?).get!) (v := kex 3) rfl (by kernel_rfl) (by kernel_rfl) (by kernel_rfl) (fun _ _ _ h => hQp _ _ _ _ _ h) (.inl ⟨rfl, fun w => run_build74 _ _ _ _ rfl w⟩) ?_
  refine wpAny_take (i := 5) (oi := (hops[5]?).get!) (v := kex 4) rfl (by kernel_rfl) (by kernel_rfl) (by kernel_rfl) (fun _ _ _ h => hQp _ _ _ _ _ h) (.inl ⟨rfl, fun w => run_build74 _ _ _ _ rfl w⟩) ?_
  refine wpAny_take (i := 7) (oi := (hops[7]?).get!) (v := kti 2) rfl (by kernel_rfl) (by kernel_rfl) (by kernel_rfl) (fun _ _ _ h => hQp _ _ _ _ _ h) (.inl ⟨rfl, fun w => run_build74 _ _ _ _ rfl w⟩) ?_
  refine wpAny_take (i := 9) (oi := (hops[9]?).get!) (v := kti 4) rfl (by kernel_rfl) (by kernel_rfl) (by kernel_rfl) (fun _ _ _ h => hQp _ _ _ _ _ h) (.inl ⟨rfl, fun w => run_build74 _ _ _ _ rfl w⟩) ?_
  refine wpAny_take (i := 11) (oi := (hops[11]?).get!) (v := kti 1) rfl (by kernel_rfl) (by kernel_rfl) (by kernel_rfl) (fun _ _ _ h => hQp _ _ _ _ _ h) (.inl ⟨rfl, fun w => run_build74 _ _ _ _ rfl w⟩) ?_
  refine wpAny_take (i := 13) (oi := (hops[13]?).get!) (v := kti 5) rfl (by kernel_rfl) (by kernel_rfl) (by kernel_rfl) (fun _ _ _ h => hQp _ _ _ _ _ h) (.inl ⟨rfl, fun w => run_build74 _ _ _ _ rfl w⟩) ?_
  refine wpAny_all (rs := [0]) (by kernel_rfl) (by simp) fun i hi => ?_
  obtain rfl : i = 0 := by simpa using hi
  refine step_0 _ _ ?_
  exact ins_any _ 9 (fun _ => false) _ (by decide) (map_made _) fun w' hm hs => hQ _ w' (Nat.le_refl _) hm ((((Below.refl w.heap.size w).drew).alloc (Nat.le_refl _) _).trans (hs.below (Nat.le_refl _) (by rw [World.size_alloc]; exact Nat.le_succ _)))

theorem happens_calls (w : World) : Calls Try.prog 28 #[] w fun e w' => ∃ b, e = .returned (.map (some b)) ∧ w.heap.size ≤ b ∧ MapIs w' b (fun _ => true) ∧ Below w.heap.size w w' := by
  go_enter Try.func28, Try.ntmps28
  go_wp2
  refine happens_region (fun _ _ d _ _ h => by cases d <;> exact h) w fun b w' hle hm hb => ?_
  have HM := Lib.hid hm
  have HB := Lib.hid hb
  clear hm hb
  go_wp2
  go_ret
  exact ⟨b, rfl, hle, HM.out, HB.out⟩
end Go.Proofs.Ytngoenbdimlppaa.Svc
