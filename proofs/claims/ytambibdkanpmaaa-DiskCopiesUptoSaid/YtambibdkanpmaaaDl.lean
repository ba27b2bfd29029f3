/-
  DiskPieces, DiskApart.
-/
import Derived.Test.YtambibdkanpmaaaRows
import Derived.Test.YtambibdkanpmaaaDk
namespace Go.Proofs.Ytambibdkanpmaaa
attribute [local irreducible] St1 RL RA RT RT1 Run

/-! ### what is synced stays -/
theorem lookL_map {pl : List PF} {u : PF → PF} (hu : ∀ f, (u f).name = f.name) (n : ByteArray) : lookL (pl.map u) n = (lookL pl n).map u := by
  induction pl with
  | nil => rfl
  | cons x l ih =>
    rw [lookL, lookL, List.map_cons, List.find?_cons, List.find?_cons, hu]
    by_cases c : x.name = n
    · simp [c]
    · simp only [c, decide_false]; exact ih
theorem lookL_upd {pl : List PF} {u : PF → PF} (hu : ∀ f, (u f).name = f.name) (m n : ByteArray) : lookL (updL pl m u) n = (lookL pl n).map (fun f => if f.name = m then u f else f) :=
  lookL_map (u := fun f => if f.name = m then u f else f) (fun f => by show (if f.name = m then u f else f).name = f.name; split; exact hu f; rfl) n
theorem lookL_app {pl : List PF} {x f : PF} {n : ByteArray} (h : lookL pl n = some f) : lookL (pl ++ [x]) n = some f := by rw [lookL, List.find?_append]; rw [lookL] at h; rw [h]; rfl
theorem lookL_rem {pl : List PF} {m n : ByteArray} (h : m ≠ n) : lookL (remL pl m) n = lookL pl n := by
  induction pl with
  | nil => rfl
  | cons x l ih =>
    rw [remL, List.filter_cons]
    by_cases c : x.name = n
    · rw [if_pos (by rw [c]; simpa using fun e => h e.symm), lookL, lookL, List.find?_cons, List.find?_cons]; simp [c]
    · by_cases c2 : x.name = m
      · rw [if_neg (by simpa using c2)]
        have : lookL (x :: l) n = lookL l n := by rw [lookL, List.find?_cons]; simp only [c, decide_false]; rfl
        rw [this]; exact ih
      · rw [if_pos (by simpa using c2)]
        have e1 : lookL (x :: l) n = lookL l n := by rw [lookL, List.find?_cons]; simp only [c, decide_false]; rfl
        have e2 : lookL (x :: List.filter (fun f => decide (f.name ≠ m)) l) n = lookL (remL l m) n := by rw [lookL, List.find?_cons]; simp only [c, decide_false]; rfl
        rw [e1, e2]; exact ih
theorem has_look {pl : List PF} {n : ByteArray} {f : PF} (h : lookL pl n = some f) : hasL pl n = true := by obtain ⟨h1, h2⟩ := lookL_some h; exact hasL_iff.2 ⟨f, h1, h2⟩
theorem lookE_some {pl : List PF} {n : ByteArray} {f : PF} (hm : mayN n = true) (h : lookL pl n = some f) : lookE pl n = 0 := by rw [lookE, if_pos hm, has_look h]; rfl
theorem lookE_zero {pl : List PF} {n : ByteArray} (h : lookE pl n = 0) : mayN n = true ∧ ∃ f, lookL pl n = some f := by
  unfold lookE at h
  split at h
  · rename_i hm
    split at h
    · rename_i hh
      refine ⟨hm, ?_⟩
      cases hl : lookL pl n with
      | some f => exact ⟨f, rfl⟩
      | none =>
        obtain ⟨f, hf, e⟩ := hasL_iff.1 hh
        have := List.find?_eq_none.1 hl f hf
        simp [e] at this
    · cases h
  · cases h
theorem sync_le {room : Int} {pl : List PF} (h : PLOk room pl) (n : ByteArray) : syncB pl n ≤ (readB pl n).length := by
  unfold syncB readB
  cases hl : lookL pl n with
  | none => exact Nat.zero_le _
  | some f => exact h.sync f (lookL_some hl).1
theorem opc_range (z : Int) : 0 ≤ opc z ∧ opc z < 8 := by
  have h1 : 0 ≤ IntKind.u64.wrap z := by
    have e2 : IntKind.u64.signed = false := rfl
    have e1 : IntKind.u64.bits = 64 := rfl
    unfold IntKind.wrap
    simp only [e2, e1, Bool.false_and]
    exact Int.emod_nonneg _ (by decide)
  rw [opc, Int.tmod_eq_emod_of_nonneg h1]
  exact ⟨Int.emod_nonneg _ (by decide), Int.emod_lt_of_pos _ (by decide)⟩

/-- two disks alike -/
def Alike (sy : Bool) (p1 p2 : List PF) : Prop := namesS p1 = namesS p2 ∧ ∀ s ∈ namesS p1, readB p1 s = readB p2 s ∧ (sy = true → syncB p1 s = syncB p2 s)
theorem Alike.refl (sy : Bool) (p : List PF) : Alike sy p p := ⟨rfl, fun _ _ => ⟨rfl, fun _ => rfl⟩⟩
theorem names_size {room : Int} {pl : List PF} (h : PLOk room pl) {s : ByteArray} (hs : s ∈ namesS pl) : s.size ≤ 4294967295 := by
  have h1 := sortN_mem.mem_iff.1 hs
  obtain ⟨f, hf, rfl⟩ := List.mem_map.1 h1
  have := h.may f hf
  simp only [mayN, Bool.and_eq_true, decide_eq_true_eq] at this
  omega
theorem names_len {room : Int} {pl : List PF} (h : PLOk room pl) : (namesS pl).length ≤ 64 := by rw [namesS, sortN_mem.length_eq, List.length_map]; exact h.len
theorem pieces {room : Int} {pl : List PF} {n : ByteArray} {a b : List UInt8} (hn : (pl.map (·.name)).Nodup) (h1 : appE room pl n a = 0) (h2 : appE room (appL room pl n a) n b = 0) : appE room pl n (a ++ b) = 0 ∧ appL room pl n (a ++ b) = appL room (appL room pl n a) n b := by
  have hm : mayN n = true := by
    unfold appE at h1; split at h1
    · assumption
    · cases h1
  have hc1 : ¬ ((hasL pl n = false ∧ 64 ≤ pl.length) ∨ room - (usedL pl : Int) < (a.length : Int)) := fun h => by rw [appE_full hm h] at h1; cases h1
  have hu : usedL (appL room pl n a) = usedL pl + a.length := by
    rw [appL, if_pos h1]
    split
    · rename_i hh
      obtain ⟨f, hf, rfl⟩ := hasL_iff.1 hh
      obtain ⟨l1, l2, rfl⟩ := List.append_of_mem hf
      rw [updL_split hn]
      simp [usedL]; omega
    · rw [used_append]; simp [usedL]
  have hh2 : hasL (appL room pl n a) n = true := by
    rw [appL, if_pos h1]
    split
    · rename_i hh
      obtain ⟨f, hf, e⟩ := hasL_iff.1 hh
      exact hasL_iff.2 ⟨{ f with bytes := f.bytes ++ a }, List.mem_map.2 ⟨f, hf, by rw [if_pos e]⟩, e⟩
    · exact hasL_iff.2 ⟨⟨n, a, 0⟩, by simp, rfl⟩
  have hc2 : ¬ room - (usedL (appL room pl n a) : Int) < (b.length : Int) := fun h => by rw [appE_full hm (.inr h)] at h2; cases h2
  have he : appE room pl n (a ++ b) = 0 := appE_ok hm (by
    rintro (h | h)
    · exact hc1 (.inl h)
    · rw [hu] at hc2; rw [List.length_append] at h; omega)
  refine ⟨he, ?_⟩
  rw [appL, if_pos he, show appL room (appL room pl n a) n b = updL (appL room pl n a) n (fun f => { f with bytes := f.bytes ++ b }) by rw [appL, if_pos h2, if_pos hh2]]
  rw [appL, if_pos h1]
  split
  · rw [updL, updL, updL, List.map_map]
    refine List.map_congr_left fun f _ => ?_
    simp only [Function.comp]
    by_cases c : f.name = n
    · simp [c]
    · simp [c]
  · rename_i hh
    have hno : ∀ f ∈ pl, f.name ≠ n := fun f hf e => hh (hasL_iff.2 ⟨f, hf, e⟩)
    rw [updL, List.map_append]
    have := upd_no (u := fun f => { f with bytes := f.bytes ++ b }) hno
    rw [updL] at this
    rw [this]
    simp
theorem look_step {room : Int} {pl : List PF} {p : DoP} {s : ByteArray} (hop : opc p.op ≤ 5) (h1 : s ≠ p.name) (h2 : opc p.op = 4 → s ≠ p.other) : lookL (stepL room pl p) s = lookL pl s := by
  have hr := opc_range p.op
  have hupd : ∀ (u : PF → PF), (∀ f, (u f).name = f.name) → lookL (updL pl p.name u) s = lookL pl s := fun u hu => by
    rw [lookL_upd hu]
    cases h : lookL pl s with
    | none => rfl
    | some f =>
      have := (lookL_some h).2
      simp only [Option.map_some]
      rw [if_neg (by rw [this]; exact h1)]
  have happ : ∀ (l : List PF) (x : PF), x.name ≠ s → lookL (l ++ [x]) s = lookL l s := fun l x hx => by
    rw [lookL, lookL, List.find?_append]
    have : List.find? (fun f => decide (f.name = s)) [x] = none := by simp [List.find?_cons, hx]
    rw [this]; cases List.find? (fun f => decide (f.name = s)) l <;> rfl
  unfold stepL
  split
  · unfold appL
    split
    · split
      · exact hupd _ (fun _ => rfl)
      · exact happ _ _ (fun e => h1 e.symm)
    · rfl
  · split
    · exact hupd _ (fun _ => rfl)
    · split
      · rename_i ho
        unfold renL
        split
        · split
          · rw [happ _ _ (fun e => h2 ho e.symm), lookL_rem (fun e => h2 ho e.symm), lookL_rem (fun e => h1 e.symm)]
          · rfl
        · rfl
      · split
        · exact lookL_rem (fun e => h1 e.symm)
        · exfalso; omega
theorem same_look {p1 p2 : List PF} {s : ByteArray} (h : lookL p1 s = lookL p2 s) : lookE p1 s = lookE p2 s ∧ readB p1 s = readB p2 s ∧ syncB p1 s = syncB p2 s := by
  refine ⟨?_, by rw [readB, readB, h], by rw [syncB, syncB, h]⟩
  have : hasL p1 s = hasL p2 s := by
    have key : ∀ p : List PF, hasL p s = (lookL p s).isSome := fun p => by
      cases hl : lookL p s with
      | none => exact hasL_false fun f hf e => by have := List.find?_eq_none.1 hl f hf; simp [e] at this
      | some f => exact has_look hl
    rw [key, key, h]
  rw [lookE, lookE, this]
/-! ### crashes -/
theorem crash_names (pl : List PF) (pts : List PTear) : namesS (crashL pl pts) = namesS pl := by
  unfold crashL
  split
  · rw [namesS, namesS, List.map_map, show ((·.name) ∘ crashF pts) = (·.name) from funext fun f => crashF_name pts f]
  · rfl
theorem crash_look {pl : List PF} {pts : List PTear} (he : tornE pl pts [] = 0) (s : ByteArray) : lookL (crashL pl pts) s = (lookL pl s).map (crashF pts) := by rw [crashL_ok he, lookL_map (crashF_name _)]
theorem crash_pre {room : Int} {pl : List PF} {pts : List PTear} (hk : PLOk room pl) (hj : ∀ t ∈ pts, t.junk = []) (he : tornE pl pts [] = 0) {s : ByteArray} (hs : s ∈ namesS pl) :
    lookE (crashL pl pts) s = 0 ∧ syncB pl s ≤ (readB (crashL pl pts) s).length ∧ (readB pl s).take (readB (crashL pl pts) s).length = readB (crashL pl pts) s := by
  have h1 := sortN_mem.mem_iff.1 hs
  obtain ⟨f, hf, rfl⟩ := List.mem_map.1 h1
  have hl := lookL_mem hk.nodup hf
  have hc := crash_look he f.name
  rw [hl] at hc
  have hsy := hk.sync f hf
  refine ⟨lookE_some (hk.may f hf) hc, ?_⟩
  rw [readB, readB, syncB, hl, hc]
  simp only [Option.map_some, Option.getD_some]
  unfold crashF
  split
  · rename_i t ht
    have ht2 : t.name = f.name := by have := List.find?_some ht; simpa using this
    obtain ⟨f0, h5, h6⟩ := tornE_ok he t (List.mem_of_find?_eq_some ht)
    simp only [tornB, hj t (List.mem_of_find?_eq_some ht), List.append_nil]
    refine ⟨by rw [List.length_take]; omega, ?_⟩
    rw [List.length_take, List.take_eq_take_iff]; omega
  · refine ⟨by simp only [List.length_take]; omega, ?_⟩
    simp only [List.length_take]
    rw [List.take_eq_take_iff]; omega
theorem torn_nil (pl : List PF) : tornE pl [] [] = 0 := rfl
theorem crash_synced {pl : List PF} {pts : List PTear} (he : tornE pl pts [] = 0) : ∀ f ∈ crashL pl pts, f.synced = f.bytes.length := by
  intro f hf
  rw [crashL_ok he] at hf
  obtain ⟨x, _, rfl⟩ := List.mem_map.1 hf
  unfold crashF; split <;> rfl
theorem crash_twice {pl : List PF} {pts : List PTear} (he : tornE pl pts [] = 0) : crashL (crashL pl pts) [] = crashL pl pts := by
  rw [crashL_ok (torn_nil _)]
  have : ∀ f ∈ crashL pl pts, crashF [] f = f := fun f hf => by
    have h := crash_synced he f hf
    have e : crashF [] f = ⟨f.name, f.bytes.take f.synced, (f.bytes.take f.synced).length⟩ := rfl
    rw [e, h, List.take_length, ← h]
  exact (List.map_congr_left this).trans (List.map_id'' (fun _ => rfl) _)

theorem en10 : Enters Try.prog 10 := enters_of Try.func10 rfl (by kernel_rfl)
theorem en11 : Enters Try.prog 11 := enters_of Try.func11 rfl (by kernel_rfl)
theorem en13 : Enters Try.prog 13 := enters_of Try.func13 rfl (by kernel_rfl)
theorem en16 : Enters Try.prog 16 := enters_of Try.func16 rfl (by kernel_rfl)
theorem en17 : Enters Try.prog 17 := enters_of Try.func17 rfl (by kernel_rfl)
theorem en34 : Enters Try.prog 34 := enters_of Try.func34 rfl (by kernel_rfl)
theorem en36 : Enters Try.prog 36 := enters_of Try.func36 rfl (by kernel_rfl)

set_option maxRecDepth 100000 in
set_option maxHeartbeats 4000000 in
theorem equal_str (a : Option Addr) (xs : List ByteArray) (c : Nat) (d : Option Addr) (ys : List ByteArray) (e : Nat) (w : World) (hs : SlOf w a xs) (ht : SlOf w d ys) (hl : xs.length ≤ 4294967295) :
    Calls Try.prog 36 #[.slice (a) (xs.length) (c), .slice (d) (ys.length) (e)] w (Ret (fun v w' => v = .bool (decide (xs = ys)) ∧ Ext w w')) := by
  refine calls_run (n := 26) Try.func36 rfl rfl rfl ?_
  refine Run.seq ?_
  refine Run.region ?_
  refine RL.val (x_assignB rfl) ?_
  refine RL.nil ?_
  refine Run.seq ?_
  refine Run.seq ?_
  refine Run.region ?_
  refine RL.val (x_moveSl rfl) ?_
  refine RL.val (x_lenSl Try.underlying40 rfl) ?_
  refine RL.val (x_moveSl rfl) ?_
  refine RL.val (x_lenSl Try.underlying40 rfl) ?_
  refine RL.val (x_neI rfl rfl) ?_
  refine RL.nil ?_
  refine Run.cond rfl (fun hc10 => ?_) (fun hc10 => ?_)
  · try simp only [br] at hc10
    refine Run.seq ?_
    refine Run.region ?_
    refine RL.val (x_assignB rfl) ?_
    refine RL.nil ?_
    refine Run.ret1 (v := .bool (false)) Try.func36 rfl rfl ?_
    exact ⟨_, rfl, by rw [decide_eq_false (fun h => hc10 (by rw [h]))], (Keeps.refl _ w)⟩
  · try simp only [br] at hc10
    have hlen : xs.length = ys.length := by omega
    refine Run.skip ?_
    refine Run.seq ?_
    refine Run.seq ?_
    refine Run.region ?_
    refine RL.val (x_moveSl rfl) ?_
    refine RL.val (x_lenSl Try.underlying40 rfl) ?_
    refine RL.val (x_moveI rfl) ?_
    refine RL.nil ?_
    refine Run.block ?_
    refine Run.loop (ι := Nat) (fun i ρ' w' => Holds ρ' [(0, .slice (a) (xs.length) (c)), (1, .slice (d) (ys.length) (e)), (12, .int .i64 (((xs.length : Nat) : Int))), (13, .int .i64 (((i : Nat) : Int)))] ∧ Ext w w' ∧ (i ≤ xs.length) ∧ (SameB xs ys i)) (fun i => xs.length - i) 0 ?_ ?_
    · refine ⟨⟨rfl, rfl, rfl, rfl, trivial⟩, (Keeps.refl _ w), ?_, ?_⟩
      · omega
      · exact SameB.zero _ _
    rintro i ρ_3 w_1 ⟨hH_2, K0, hi, hno⟩ ih1
    obtain ⟨ρ₀, rfl⟩ := hH_2.ex
    clear hH_2
    refine Run.seq ?_
    refine Run.region ?_
    refine RL.val (x_ltI rfl rfl) ?_
    refine RL.nil ?_
    refine Run.seq ?_
    refine Run.cond rfl (fun hc14 => ?_) (fun hc14 => ?_)
    · try simp only [br] at hc14
      refine Run.skip ?_
      refine Run.seq ?_
      refine Run.block ?_
      refine Run.seq ?_
      refine Run.region ?_
      refine RL.val (x_moveI rfl) ?_
      refine RL.val (x_assignI rfl) ?_
      refine RL.nil ?_
      refine Run.seq ?_
      obtain ⟨b_6, o_7, x, hx, ha_8, hc_9⟩ := hs.el (i := i) (by first | omega | (simp only [List.length_set]; omega))
      have hc_9_lt := hc_9.lt
      replace hc_9 := hc_9.ext K0
      obtain ⟨b_12, o_13, y, hy, ha_14, hc_15⟩ := ht.el (i := i) (by first | omega | (simp only [List.length_set]; omega))
      have hc_15_lt := hc_15.lt
      replace hc_15 := hc_15.ext K0
      refine Run.draw' (m := 9) (by kernel_rfl) rfl ?_
      intro w_4 K_5
      replace hc_9 := hc_9.ext K_5
      replace hc_15 := hc_15.ext K_5
      replace K0 := K0.ext K_5
      refine RA.take (v := .slice (a) (xs.length) (c)) 0 rfl (by kernel_rfl) rfl (by rintro _ rfl; exact (x_moveSl rfl)) ?_
      refine RA.take (v := .int .i64 (((i : Nat) : Int))) 1 rfl (by kernel_rfl) rfl (by rintro _ rfl; exact (x_moveI rfl)) ?_
      refine RA.take (v := .pointer (some ⟨b_6, o_7 + i * 1, none⟩)) 2 rfl (by kernel_rfl) rfl (by rintro _ rfl; exact (x_idxN Try.underlying40 ty9 rfl rfl ha_8 (by first | omega | (simp only [List.length_set]; omega)))) ?_
      refine RA.take (v := .string (x)) 3 rfl (by kernel_rfl) rfl (by rintro _ rfl; exact (x_ldV (v := .string (x)) (y := x) ty9 rfl hc_9 rfl)) ?_
      refine RA.take (v := .slice (d) (ys.length) (e)) 4 rfl (by kernel_rfl) rfl (by rintro _ rfl; exact (x_moveSl rfl)) ?_
      refine RA.take (v := .int .i64 (((i : Nat) : Int))) 5 rfl (by kernel_rfl) rfl (by rintro _ rfl; exact (x_moveI rfl)) ?_
      refine RA.take (v := .pointer (some ⟨b_12, o_13 + i * 1, none⟩)) 6 rfl (by kernel_rfl) rfl (by rintro _ rfl; exact (x_idxN Try.underlying40 ty9 rfl rfl ha_14 (by first | omega | (simp only [List.length_set]; omega)))) ?_
      refine RA.take (v := .string (y)) 7 rfl (by kernel_rfl) rfl (by rintro _ rfl; exact (x_ldV (v := .string (y)) (y := y) ty9 rfl hc_15 rfl)) ?_
      refine RA.take (v := .bool (!decide (x = y))) 8 rfl (by kernel_rfl) rfl (by rintro _ rfl; exact (x_neS rfl rfl)) ?_
      refine RA.done (by kernel_rfl) ?_
      refine Run.cond rfl (fun hc24 => ?_) (fun hc24 => ?_)
      · try simp only [br] at hc24
        refine Run.seq ?_
        refine Run.region ?_
        refine RL.val (x_assignB rfl) ?_
        refine RL.nil ?_
        refine Run.ret1 (v := .bool (false)) Try.func36 rfl rfl ?_
        exact ⟨_, rfl, by rw [decide_eq_false (ne_of_at hx hy hc24)], K0⟩
      · try simp only [br] at hc24
        refine Run.skip ?_
        refine Run.inBlock ?_
        refine Run.region ?_
        refine RL.val (litI (c := ((i + 1 : Nat) : Int)) (x_add rfl rfl (by omega) (by omega)) rfl) ?_
        refine RL.val (x_moveI rfl) ?_
        refine RL.nil ?_
        refine ih1 (i + 1) _ _ ?_ (by omega)
        refine ⟨⟨rfl, rfl, rfl, rfl, trivial⟩, K0, ?_, ?_⟩
        · omega
        · exact hno.step hx hy hc24
    · try simp only [br] at hc14
      refine Run.exit rfl ?_
      refine Run.seq ?_
      refine Run.region ?_
      refine RL.val (x_assignB rfl) ?_
      refine RL.nil ?_
      refine Run.ret1 (v := .bool (true)) Try.func36 rfl rfl ?_
      exact ⟨_, rfl, by rw [decide_eq_true (hno.all hlen (by omega))], K0⟩

set_option maxRecDepth 100000 in
set_option maxHeartbeats 4000000 in
theorem alikeTwo_ (d1 : Nat) (F1 : Nat → Prop) (r1 : Int) (p1 : List PF) (d2 : Nat) (F2 : Nat → Prop) (r2 : Int) (p2 : List PF) (sy : Bool) (w : World) (hA : DiskAt w d1 F1 r1 p1) (hB2 : DiskAt w d2 F2 r2 p2) (hal : Alike sy p1 p2) :
    Calls Try.prog 34 #[.pointer (some ⟨d1, 0, none⟩), .pointer (some ⟨d2, 0, none⟩), .bool (sy)] w (Ret (fun v w' => v = .bool true ∧ Ext w w')) := by
  have hnl1 : (namesS p1).length ≤ 64 := by rw [namesS, sortN_mem.length_eq, List.length_map]; exact hA.ok.len
  have hnl2 : (namesS p2).length ≤ 64 := by rw [namesS, sortN_mem.length_eq, List.length_map]; exact hB2.ok.len
  refine calls_run (n := 79) Try.func34 rfl rfl rfl ?_
  refine Run.seq ?_
  refine Run.region ?_
  refine RL.val (x_assignB rfl) ?_
  refine RL.nil ?_
  refine Run.seq ?_
  refine Run.seq ?_
  refine Run.region ?_
  refine RL.val (x_moveP rfl) ?_
  refine RL.val (litF (x_ptrNil Try.underlying23 rfl rfl) rfl) ?_
  refine RL.val (x_moveB rfl) ?_
  refine RL.gst (wantedF1 rfl rfl rfl rfl) <| St1.val (x_moveP rfl) ?_
  refine RL.gst (wantedF1 rfl rfl rfl rfl) <| St1.val (litF (x_ptrNil Try.underlying23 rfl rfl) rfl) ?_
  refine RL.val (x_orF rfl rfl rfl) ?_
  refine RL.val (x_moveB rfl) ?_
  refine RL.gst (wantedF1 rfl rfl rfl rfl) <| St1.val (x_moveP rfl) ?_
  refine RL.gst (wantedF1 rfl rfl rfl rfl) <| St1.call (vals := [.pointer (some ⟨d1, 0, none⟩)]) en17 rfl (filesD hA) ?_
  rintro _ w_3 ⟨a_1, c_2, rfl, ho_4, hg_5, K_6⟩
  have pg_7 : ∀ q_, own a_1 q_ → w.heap.size ≤ q_ := fun q_ h => Nat.le_trans (Nat.le_refl _) (hg_5 q_ h)
  clear hg_5
  replace hA := hA.ext K_6
  replace hB2 := hB2.ext K_6
  have K0 := (K_6 : Ext w _)
  refine RL.gst (wantedF1 rfl rfl rfl rfl) <| St1.val (x_moveP rfl) ?_
  refine RL.gst (wantedF1 rfl rfl rfl rfl) <| St1.call (vals := [.pointer (some ⟨d2, 0, none⟩)]) en17 rfl (filesD hB2) ?_
  rintro _ w_10 ⟨a_8, c_9, rfl, ho_11, hg_12, K_13⟩
  have pr_14 : ∀ q_, own a_8 q_ → ¬ own a_1 q_ := apartNew hg_12 ho_4.own_lt
  have pg_15 : ∀ q_, own a_8 q_ → w.heap.size ≤ q_ := fun q_ h => Nat.le_trans K0.size (hg_12 q_ h)
  clear hg_12
  replace hA := hA.ext K_13
  replace hB2 := hB2.ext K_13
  replace ho_4 := ho_4.ext K_13
  replace K0 := K0.ext K_13
  refine RL.gst (wantedF1 rfl rfl rfl rfl) <| St1.call (vals := [.slice (a_1) ((namesS p1).length) (c_2), .slice (a_8) ((namesS p2).length) (c_9)]) en36 rfl (equal_str _ _ _ _ _ _ _ ho_4.sl ho_11.sl (by omega)) ?_
  rintro _ w_16 ⟨rfl, K_17⟩
  replace hA := hA.ext K_17
  replace hB2 := hB2.ext K_17
  replace ho_4 := ho_4.ext K_17
  replace ho_11 := ho_11.ext K_17
  replace K0 := K0.ext K_17
  refine RL.gst (wantedF1 rfl rfl rfl rfl) <| St1.val (x_not rfl) ?_
  refine RL.val (x_orF rfl rfl rfl) ?_
  refine RL.nil ?_
  refine Run.cond rfl (fun hc32 => ?_) (fun hc32 => ?_)
  · try simp only [br] at hc32
    exact absurd hal.1 hc32
  · try simp only [br] at hc32
    refine Run.skip ?_
    refine Run.seq ?_
    refine Run.seq ?_
    refine Run.region ?_
    refine RL.val (x_moveP rfl) ?_
    refine RL.st rfl <| St1.call (vals := [.pointer (some ⟨d1, 0, none⟩)]) en17 rfl (filesD hA) ?_
    rintro _ w_20 ⟨a_18, c_19, rfl, ho_21, hg_22, K_23⟩
    have pr_24 : ∀ q_, own a_18 q_ → ¬ own a_1 q_ := apartNew hg_22 ho_4.own_lt
    have pr_25 : ∀ q_, own a_18 q_ → ¬ own a_8 q_ := apartNew hg_22 ho_11.own_lt
    have pg_26 : ∀ q_, own a_18 q_ → w.heap.size ≤ q_ := fun q_ h => Nat.le_trans K0.size (hg_22 q_ h)
    clear hg_22
    replace hA := hA.ext K_23
    replace hB2 := hB2.ext K_23
    replace ho_4 := ho_4.ext K_23
    replace ho_11 := ho_11.ext K_23
    replace K0 := K0.ext K_23
    refine RL.val (x_lenSl Try.underlying40 rfl) ?_
    refine RL.val (x_moveI rfl) ?_
    refine RL.nil ?_
    refine Run.block ?_
    refine Run.loop (ι := Nat) (fun i ρ' w' => Holds ρ' [(0, .pointer (some ⟨d1, 0, none⟩)), (1, .pointer (some ⟨d2, 0, none⟩)), (2, .bool (sy)), (34, .slice (a_18) ((namesS p1).length) (c_19)), (35, .int .i64 ((((namesS p1).length : Nat) : Int))), (36, .int .i64 (((i : Nat) : Int)))] ∧ Ext w w' ∧ (DiskAt w' d1 F1 r1 p1) ∧ (DiskAt w' d2 F2 r2 p2) ∧ (OwnSl w' 9 (a_1) (c_2) (namesS p1)) ∧ (OwnSl w' 9 (a_8) (c_9) (namesS p2)) ∧ (OwnSl w' 9 (a_18) (c_19) (namesS p1)) ∧ (i ≤ (namesS p1).length)) (fun i => (namesS p1).length - i) 0 ?_ ?_
    · refine ⟨⟨rfl, rfl, rfl, rfl, rfl, rfl, trivial⟩, K0, hA, hB2, ho_4, ho_11, ho_21, ?_⟩
      · omega
    clear ho_4 ho_11 ho_21
    clear K0
    rintro i ρ_29 w_27 ⟨hH_28, K0, hA, hB2, ho_4, ho_11, ho_21, hi⟩ ih1
    obtain ⟨ρ₀, rfl⟩ := hH_28.ex
    clear hH_28
    refine Run.seq ?_
    refine Run.region ?_
    refine RL.val (x_ltI rfl rfl) ?_
    refine RL.nil ?_
    refine Run.seq ?_
    refine Run.cond rfl (fun hc37 => ?_) (fun hc37 => ?_)
    · try simp only [br] at hc37
      refine Run.skip ?_
      refine Run.seq ?_
      refine Run.block ?_
      refine Run.seq ?_
      refine Run.region ?_
      obtain ⟨b_30, o_31, s, hx, ha_32, hc_33⟩ := ho_21.sl.el (i := i) (by first | omega | (simp only [List.length_set]; omega))
      refine RL.val (x_idxN Try.underlying40 ty9 rfl rfl ha_32 (by first | omega | (simp only [List.length_set]; omega))) ?_
      refine RL.val (x_ldV (v := .string (s)) (y := s) ty9 rfl hc_33 rfl) ?_
      refine RL.val (x_assignS rfl) ?_
      refine RL.nil ?_
      have hns := names_size hA.ok (List.mem_of_getElem? hx)
      have hrs := hal.2 s (List.mem_of_getElem? hx)
      refine Run.seq ?_
      refine Run.region ?_
      refine RL.val (x_moveP rfl) ?_
      refine RL.val (x_moveS rfl) ?_
      refine RL.st rfl <| St1.call (vals := [.pointer (some ⟨d1, 0, none⟩), .string (s)]) en12 rfl (readD hA s (by first | omega | decide)) ?_
      rintro _ w_38 ⟨a_36, c_37, rfl, ho_39, hg_40, K_41⟩
      have pr_42 : ∀ q_, own a_36 q_ → ¬ own a_1 q_ := apartNew hg_40 ho_4.own_lt
      have pr_43 : ∀ q_, own a_36 q_ → ¬ own a_8 q_ := apartNew hg_40 ho_11.own_lt
      have pr_44 : ∀ q_, own a_36 q_ → ¬ own a_18 q_ := apartNew hg_40 ho_21.own_lt
      have pg_45 : ∀ q_, own a_36 q_ → w.heap.size ≤ q_ := fun q_ h => Nat.le_trans K0.size (hg_40 q_ h)
      clear hg_40
      replace hA := hA.ext K_41
      replace hB2 := hB2.ext K_41
      replace ho_4 := ho_4.ext K_41
      replace ho_11 := ho_11.ext K_41
      replace ho_21 := ho_21.ext K_41
      replace K0 := K0.ext K_41
      refine RL.val (x_moveT rfl) ?_
      refine RL.val (x_extract rfl rfl) ?_
      refine RL.val (x_extract rfl rfl) ?_
      refine RL.val (x_assignSl rfl) ?_
      refine RL.val (x_assignI rfl) ?_
      refine RL.nil ?_
      refine Run.seq ?_
      refine Run.region ?_
      refine RL.val (x_moveP rfl) ?_
      refine RL.val (x_moveS rfl) ?_
      refine RL.st rfl <| St1.call (vals := [.pointer (some ⟨d2, 0, none⟩), .string (s)]) en12 rfl (readD hB2 s (by first | omega | decide)) ?_
      rintro _ w_48 ⟨a_46, c_47, rfl, ho_49, hg_50, K_51⟩
      have pr_52 : ∀ q_, own a_46 q_ → ¬ own a_1 q_ := apartNew hg_50 ho_4.own_lt
      have pr_53 : ∀ q_, own a_46 q_ → ¬ own a_8 q_ := apartNew hg_50 ho_11.own_lt
      have pr_54 : ∀ q_, own a_46 q_ → ¬ own a_18 q_ := apartNew hg_50 ho_21.own_lt
      have pr_55 : ∀ q_, own a_46 q_ → ¬ own a_36 q_ := apartNew hg_50 ho_39.own_lt
      have pg_56 : ∀ q_, own a_46 q_ → w.heap.size ≤ q_ := fun q_ h => Nat.le_trans K0.size (hg_50 q_ h)
      clear hg_50
      replace hA := hA.ext K_51
      replace hB2 := hB2.ext K_51
      replace ho_4 := ho_4.ext K_51
      replace ho_11 := ho_11.ext K_51
      replace ho_21 := ho_21.ext K_51
      replace ho_39 := ho_39.ext K_51
      replace K0 := K0.ext K_51
      refine RL.val (x_moveT rfl) ?_
      refine RL.val (x_extract rfl rfl) ?_
      refine RL.val (x_extract rfl rfl) ?_
      refine RL.val (x_assignSl rfl) ?_
      refine RL.val (x_assignI rfl) ?_
      refine RL.nil ?_
      refine Run.seq ?_
      refine Run.region ?_
      refine RL.val (x_moveP rfl) ?_
      refine RL.val (x_moveS rfl) ?_
      refine RL.st rfl <| St1.call (vals := [.pointer (some ⟨d1, 0, none⟩), .string (s)]) en13 rfl (sizeD hA s (by first | omega | decide)) ?_
      rintro _ w_57 ⟨rfl, K_58⟩
      replace hA := hA.ext K_58
      replace hB2 := hB2.ext K_58
      replace ho_4 := ho_4.ext K_58
      replace ho_11 := ho_11.ext K_58
      replace ho_21 := ho_21.ext K_58
      replace ho_39 := ho_39.ext K_58
      replace ho_49 := ho_49.ext K_58
      replace K0 := K0.ext K_58
      refine RL.val (x_moveT rfl) ?_
      refine RL.val (x_extract rfl rfl) ?_
      refine RL.val (x_extract rfl rfl) ?_
      refine RL.val (x_extract rfl rfl) ?_
      refine RL.val (x_assignI rfl) ?_
      refine RL.val (x_assignI rfl) ?_
      refine RL.val (x_assignI rfl) ?_
      refine RL.nil ?_
      refine Run.seq ?_
      refine Run.region ?_
      refine RL.val (x_moveP rfl) ?_
      refine RL.val (x_moveS rfl) ?_
      refine RL.st rfl <| St1.call (vals := [.pointer (some ⟨d2, 0, none⟩), .string (s)]) en13 rfl (sizeD hB2 s (by first | omega | decide)) ?_
      rintro _ w_59 ⟨rfl, K_60⟩
      replace hA := hA.ext K_60
      replace hB2 := hB2.ext K_60
      replace ho_4 := ho_4.ext K_60
      replace ho_11 := ho_11.ext K_60
      replace ho_21 := ho_21.ext K_60
      replace ho_39 := ho_39.ext K_60
      replace ho_49 := ho_49.ext K_60
      replace K0 := K0.ext K_60
      refine RL.val (x_moveT rfl) ?_
      refine RL.val (x_extract rfl rfl) ?_
      refine RL.val (x_extract rfl rfl) ?_
      refine RL.val (x_extract rfl rfl) ?_
      refine RL.val (x_assignI rfl) ?_
      refine RL.val (x_assignI rfl) ?_
      refine RL.val (x_assignI rfl) ?_
      refine RL.nil ?_
      refine Run.seq ?_
      refine Run.region ?_
      refine RL.val (x_moveSl rfl) ?_
      refine RL.val (x_moveSl rfl) ?_
      refine RL.st rfl <| St1.call (vals := [.slice (a_36) ((readB p1 s).length) (c_37), .slice (a_46) ((readB p2 s).length) (c_47)]) en18 rfl (bytesEqual _ (readB p1 s) _ _ (readB p2 s) _ _ ho_39.sl ho_49.sl) ?_
      rintro _ w_61 ⟨rfl, K_62⟩
      replace hA := hA.ext K_62
      replace hB2 := hB2.ext K_62
      replace ho_4 := ho_4.ext K_62
      replace ho_11 := ho_11.ext K_62
      replace ho_21 := ho_21.ext K_62
      replace ho_39 := ho_39.ext K_62
      replace ho_49 := ho_49.ext K_62
      replace K0 := K0.ext K_62
      refine RL.val (x_not rfl) ?_
      refine RL.val (x_moveB rfl) ?_
      refine RL.gval (wantedF rfl rfl rfl rfl) (fun hg => (x_moveB rfl)) ?_
      refine RL.gval (wantedF rfl rfl rfl rfl) (fun hg => (x_moveB (gvr hg))) ?_
      refine RL.gval (wantedGT rfl rfl rfl rfl) (fun hg => (x_moveI rfl)) ?_
      refine RL.gval (wantedGT rfl rfl rfl rfl) (fun hg => (x_moveI rfl)) ?_
      refine RL.gval (wantedGT rfl rfl rfl rfl) (fun hg => (x_neI (gvr hg) (gvr hg))) ?_
      refine RL.gval (wantedF rfl rfl rfl rfl) (fun hg => (x_andG hg rfl rfl rfl)) ?_
      refine RL.val (x_or rfl rfl rfl) ?_
      refine RL.nil ?_
      refine Run.cond rfl (fun hc77 => ?_) (fun hc77 => ?_)
      · try simp only [br] at hc77
        rcases hc77 with h | h
        · exact absurd hrs.1 h
        · exact absurd (by rw [hrs.2 h.1]) h.2
      · try simp only [br] at hc77
        refine Run.skip ?_
        refine Run.inBlock ?_
        refine Run.region ?_
        refine RL.val (litI (c := ((i + 1 : Nat) : Int)) (x_add rfl rfl (by omega) (by omega)) rfl) ?_
        refine RL.val (x_moveI rfl) ?_
        refine RL.nil ?_
        refine ih1 (i + 1) _ _ ?_ (by omega)
        refine ⟨⟨rfl, rfl, rfl, rfl, rfl, rfl, trivial⟩, K0, hA, hB2, ho_4, ho_11, ho_21, ?_⟩
        · omega
    · try simp only [br] at hc37
      refine Run.exit rfl ?_
      refine Run.seq ?_
      refine Run.region ?_
      refine RL.val (x_assignB rfl) ?_
      refine RL.nil ?_
      refine Run.ret1 (v := .bool (true)) Try.func34 rfl rfl ?_
      exact ⟨_, rfl, rfl, K0⟩

set_option maxRecDepth 100000 in
set_option maxHeartbeats 4000000 in
theorem law_pieces (room : Int) (a1 : Option Addr) (os : List DoC) (c1 : Nat) (ps : List DoP) (name : ByteArray) (a3 : Option Addr) (x : List UInt8) (c3 : Nat) (a4 : Option Addr) (y : List UInt8) (c4 : Nat) (w : World) (hs1 : SlOf w a1 os) (hps : DosAt w os ps) (hl1 : os.length ≤ 4294967295) (hn : name.size ≤ 4294967295) (hsx : SlOf w a3 x) (hlx : x.length ≤ 1048576) (hsy : SlOf w a4 y) (hly : y.length ≤ 1048576) :
    Calls Try.prog 7 #[.int .i64 (room), .slice (a1) (os.length) (c1), .string (name), .slice (a3) (x.length) (c3), .slice (a4) (y.length) (c4)] w (Ret (fun v w' => v = .bool true ∧ Ext w w')) := by
  refine calls_run (n := 54) Try.func7 rfl rfl rfl ?_
  refine Run.seq ?_
  refine Run.region ?_
  refine RL.val (x_assignB rfl) ?_
  refine RL.nil ?_
  refine Run.seq ?_
  refine Run.region ?_
  refine RL.val (x_moveI rfl) ?_
  refine RL.val (x_moveSl rfl) ?_
  refine RL.st rfl <| St1.call (vals := [.int .i64 (room), .slice (a1) (os.length) (c1)]) en10 rfl (begun_ _ _ _ _ ps _ hs1 hps (by omega)) ?_
  rintro _ w_3 (⟨hnr, rfl, K_6⟩ | ⟨hrm, d_1, F_2, rfl, hD_4, hg_5, K_6⟩)
  · have K0 := (K_6 : Ext w _)
    refine RL.val (x_assignP rfl) ?_
    refine RL.nil ?_
    refine Run.seq ?_
    refine Run.seq ?_
    refine Run.region ?_
    refine RL.val (x_moveP rfl) ?_
    refine RL.val (litT (x_ptrNil Try.underlying23 rfl rfl) rfl) ?_
    refine RL.val (x_moveB rfl) ?_
    refine RL.guardF (wantedF0 rfl rfl rfl rfl) ?_
    refine RL.guardF (wantedF0 rfl rfl rfl rfl) ?_
    refine RL.val (x_or (b := true) (e := false) rfl rfl rfl) ?_
    refine RL.nil ?_
    refine Run.condT rfl ?_
    refine Run.seq ?_
    refine Run.region ?_
    refine RL.st rfl <| St1.call (vals := []) en11 rfl (awake_ _) ?_
    rintro _ w_7 ⟨rfl, K_8⟩
    replace K0 := K0.ext K_8
    refine RL.val (x_assignB rfl) ?_
    refine RL.nil ?_
    refine Run.ret1 (v := .bool (true)) Try.func7 rfl rfl ?_
    exact ⟨_, rfl, rfl, K0⟩
  · have pg_9 : ∀ q_, F_2 q_ → w.heap.size ≤ q_ := fun q_ h => Nat.le_trans (Nat.le_refl _) (hg_5 q_ h)
    clear hg_5
    have K0 := (K_6 : Ext w _)
    refine RL.val (x_assignP rfl) ?_
    refine RL.nil ?_
    refine Run.seq ?_
    refine Run.seq ?_
    refine Run.region ?_
    refine RL.val (x_moveP rfl) ?_
    refine RL.val (litF (x_ptrNil Try.underlying23 rfl rfl) rfl) ?_
    refine RL.val (x_moveB rfl) ?_
    refine RL.gst (wantedF1 rfl rfl rfl rfl) <| St1.call (vals := []) en11 rfl (awake_ _) ?_
    rintro _ w_10 ⟨rfl, K_11⟩
    replace hD_4 := hD_4.ext K_11
    replace K0 := K0.ext K_11
    refine RL.gst (wantedF1 rfl rfl rfl rfl) <| St1.val (x_not rfl) ?_
    refine RL.val (x_orF rfl rfl rfl) ?_
    refine RL.nil ?_
    refine Run.condF rfl ?_
    refine Run.skip ?_
    refine Run.seq ?_
    refine Run.region ?_
    refine RL.val (x_moveP rfl) ?_
    refine RL.st rfl <| St1.call (vals := [.pointer (some ⟨d_1, 0, none⟩)]) en16 rfl (copyD hD_4) ?_
    rintro _ w_14 ⟨d_12, F_13, rfl, hD_15, hg_16, K_17⟩
    have pr_18 : ∀ q_, F_13 q_ → ¬ F_2 q_ := apartNew hg_16 hD_4.own_lt
    have pg_19 : ∀ q_, F_13 q_ → w.heap.size ≤ q_ := fun q_ h => Nat.le_trans K0.size (hg_16 q_ h)
    clear hg_16
    replace hD_4 := hD_4.ext K_17
    replace K0 := K0.ext K_17
    refine RL.val (x_assignP rfl) ?_
    refine RL.nil ?_
    refine Run.seq ?_
    refine Run.seq ?_
    refine Run.region ?_
    refine RL.val (x_moveP rfl) ?_
    refine RL.val (litF (x_ptrNil Try.underlying23 rfl rfl) rfl) ?_
    refine RL.nil ?_
    refine Run.condF rfl ?_
    refine Run.skip ?_
    refine Run.seq ?_
    refine Run.seq ?_
    by_cases h7 : appE room (begunL room ps) name x = 0
    · refine Run.region ?_
      refine RL.val (x_moveP rfl) ?_
      refine RL.val (x_moveS rfl) ?_
      refine RL.val (x_moveSl rfl) ?_
      refine RL.st rfl <| St1.call (vals := [.slice (a3) (x.length) (c3)]) en32 rfl (clone_byte _ _ _ _ (hsx.ext K0) (by omega)) ?_
      rintro _ w_22 ⟨a_20, c_21, rfl, ho_23, hg_24, K_25⟩
      have pr_26 : ∀ q_, own a_20 q_ → ¬ F_2 q_ := apartNew hg_24 hD_4.own_lt
      have pr_27 : ∀ q_, own a_20 q_ → ¬ F_13 q_ := apartNew hg_24 hD_15.own_lt
      have pg_28 : ∀ q_, own a_20 q_ → w.heap.size ≤ q_ := fun q_ h => Nat.le_trans K0.size (hg_24 q_ h)
      clear hg_24
      replace hD_4 := hD_4.ext K_25
      replace hD_15 := hD_15.ext K_25
      replace K0 := K0.ext K_25
      refine RL.st rfl <| St1.call (vals := [.pointer (some ⟨d_1, 0, none⟩), .string (name), .slice (a_20) (x.length) (c_21)]) en19 rfl (dcast (appendD hD_4 name _ _ _ (by first | omega | decide) ho_23.sl (fun x_ hx_ => pr_26 _ ⟨x_, hx_, rfl⟩) (by first | omega | decide)) h7 rfl) ?_
      rintro _ w_30 ⟨F_29, rfl, hD_31, hm_32, K_33⟩
      have pr_34 : ∀ q_, F_29 q_ → ¬ F_13 q_ := hm_32.apart (fun q_ h1 h2 => pr_18 q_ h2 h1) hD_15.own_lt
      have pr_35 : ∀ q_, F_29 q_ → ¬ own a_20 q_ := hm_32.apart (fun q_ h1 h2 => pr_26 q_ h2 h1) ho_23.own_lt
      have pg_36 : ∀ q_, F_29 q_ → w.heap.size ≤ q_ := hm_32.ge pg_9 K0.size
      replace hD_15 := hD_15.keepO K_33 pr_18
      replace ho_23 := ho_23.keepO K_33 pr_26
      replace K0 := K0.new K_33 pg_9
      clear hm_32
      refine RL.val (litF (x_neI rfl rfl) (by decide)) ?_
      refine RL.val (x_moveB rfl) ?_
      refine RL.gst (wantedF1 rfl rfl rfl rfl) <| St1.val (x_moveP rfl) ?_
      refine RL.gst (wantedF1 rfl rfl rfl rfl) <| St1.val (x_moveS rfl) ?_
      refine RL.gst (wantedF1 rfl rfl rfl rfl) <| St1.val (x_moveSl rfl) ?_
      refine RL.gst (wantedF1 rfl rfl rfl rfl) <| St1.call (vals := [.slice (a4) (y.length) (c4)]) en32 rfl (clone_byte _ _ _ _ (hsy.ext K0) (by omega)) ?_
      rintro _ w_39 ⟨a_37, c_38, rfl, ho_40, hg_41, K_42⟩
      have pr_43 : ∀ q_, own a_37 q_ → ¬ F_13 q_ := apartNew hg_41 hD_15.own_lt
      have pr_44 : ∀ q_, own a_37 q_ → ¬ own a_20 q_ := apartNew hg_41 ho_23.own_lt
      have pr_45 : ∀ q_, own a_37 q_ → ¬ F_29 q_ := apartNew hg_41 hD_31.own_lt
      have pg_46 : ∀ q_, own a_37 q_ → w.heap.size ≤ q_ := fun q_ h => Nat.le_trans K0.size (hg_41 q_ h)
      clear hg_41
      replace hD_15 := hD_15.ext K_42
      replace ho_23 := ho_23.ext K_42
      replace hD_31 := hD_31.ext K_42
      replace K0 := K0.ext K_42
      refine RL.gst (wantedF1 rfl rfl rfl rfl) <| St1.call (vals := [.pointer (some ⟨d_1, 0, none⟩), .string (name), .slice (a_37) (y.length) (c_38)]) en19 rfl (appendD hD_31 name _ _ _ (by first | omega | decide) ho_40.sl (fun x_ hx_ => pr_45 _ ⟨x_, hx_, rfl⟩) (by first | omega | decide)) ?_
      rintro _ w_48 ⟨F_47, rfl, hD_49, hm_50, K_51⟩
      have pr_52 : ∀ q_, F_47 q_ → ¬ F_13 q_ := hm_50.apart pr_34 hD_15.own_lt
      have pr_53 : ∀ q_, F_47 q_ → ¬ own a_20 q_ := hm_50.apart pr_35 ho_23.own_lt
      have pr_54 : ∀ q_, F_47 q_ → ¬ own a_37 q_ := hm_50.apart (fun q_ h1 h2 => pr_45 q_ h2 h1) ho_40.own_lt
      have pg_55 : ∀ q_, F_47 q_ → w.heap.size ≤ q_ := hm_50.ge pg_36 K0.size
      replace hD_15 := hD_15.keepO K_51 (fun q_ h1 h2 => pr_34 q_ h2 h1)
      replace ho_23 := ho_23.keepO K_51 (fun q_ h1 h2 => pr_35 q_ h2 h1)
      replace ho_40 := ho_40.keepO K_51 pr_45
      replace K0 := K0.new K_51 pg_36
      clear hm_50
      refine RL.gst (wantedF1 rfl rfl rfl rfl) <| St1.val (x_neI rfl rfl) ?_
      refine RL.val (x_orF rfl rfl rfl) ?_
      refine RL.nil ?_
      refine Run.cond rfl (fun hc40 => ?_) (fun hc40 => ?_)
      · try simp only [br] at hc40
        refine Run.seq ?_
        refine Run.region ?_
        refine RL.val (x_assignB rfl) ?_
        refine RL.nil ?_
        refine Run.ret1 (v := .bool (true)) Try.func7 rfl rfl ?_
        exact ⟨_, rfl, rfl, K0⟩
      · try simp only [br] at hc40
        refine Run.skip ?_
        refine Run.seq ?_
        have hpc := pieces (hD_15).ok.nodup h7 hc40
        refine Run.region ?_
        refine RL.val (x_moveP rfl) ?_
        refine RL.val (x_moveS rfl) ?_
        refine RL.val (x_moveSl rfl) ?_
        refine RL.val (x_moveSl rfl) ?_
        refine RL.st rfl <| St1.buildSlice ([⟨a3, x.length, c3⟩, ⟨a4, y.length, c4⟩] : List SH) Try.underlying94 ty26 rfl rfl (by first | decide | (simp [Enc.size])) ?_
        intro b_56 w_57 hl_60 ho_59 K_58
        have pr_61 : ∀ q_, own (some ⟨b_56, 0, none⟩) q_ → ¬ F_13 q_ := apartNew (ge_new hl_60) hD_15.own_lt
        have pr_62 : ∀ q_, own (some ⟨b_56, 0, none⟩) q_ → ¬ own a_20 q_ := apartNew (ge_new hl_60) ho_23.own_lt
        have pr_63 : ∀ q_, own (some ⟨b_56, 0, none⟩) q_ → ¬ own a_37 q_ := apartNew (ge_new hl_60) ho_40.own_lt
        have pr_64 : ∀ q_, own (some ⟨b_56, 0, none⟩) q_ → ¬ F_47 q_ := apartNew (ge_new hl_60) hD_49.own_lt
        have pg_65 : ∀ q_, own (some ⟨b_56, 0, none⟩) q_ → w.heap.size ≤ q_ := fun q_ h => Nat.le_trans K0.size ((ge_new hl_60) q_ h)
        clear hl_60
        replace hD_15 := hD_15.ext K_58
        replace ho_23 := ho_23.ext K_58
        replace ho_40 := ho_40.ext K_58
        replace hD_49 := hD_49.ext K_58
        replace K0 := K0.ext K_58
        refine RL.st rfl <| St1.call (vals := [.slice (some ⟨b_56, 0, none⟩) (([⟨a3, x.length, c3⟩, ⟨a4, y.length, c4⟩] : List SH).length) (([⟨a3, x.length, c3⟩, ⟨a4, y.length, c4⟩] : List SH).length)]) en33 rfl (concat2 _ _ _ [x, y] (x ++ y) _ ho_59.sl (PartsAt.two rfl (hsx.ext K0) rfl (hsy.ext K0)) (by simp) (by simp) (by rw [List.length_append]; omega)) ?_
        rintro _ w_68 ⟨a_66, c_67, rfl, ho_69, hg_70, K_71⟩
        have pr_72 : ∀ q_, own a_66 q_ → ¬ F_13 q_ := apartNew hg_70 hD_15.own_lt
        have pr_73 : ∀ q_, own a_66 q_ → ¬ own a_20 q_ := apartNew hg_70 ho_23.own_lt
        have pr_74 : ∀ q_, own a_66 q_ → ¬ own a_37 q_ := apartNew hg_70 ho_40.own_lt
        have pr_75 : ∀ q_, own a_66 q_ → ¬ F_47 q_ := apartNew hg_70 hD_49.own_lt
        have pr_76 : ∀ q_, own a_66 q_ → ¬ own (some ⟨b_56, 0, none⟩) q_ := apartNew hg_70 ho_59.own_lt
        have pg_77 : ∀ q_, own a_66 q_ → w.heap.size ≤ q_ := fun q_ h => Nat.le_trans K0.size (hg_70 q_ h)
        clear hg_70
        replace hD_15 := hD_15.ext K_71
        replace ho_23 := ho_23.ext K_71
        replace ho_40 := ho_40.ext K_71
        replace hD_49 := hD_49.ext K_71
        replace ho_59 := ho_59.ext K_71
        replace K0 := K0.ext K_71
        refine RL.st rfl <| St1.call (vals := [.pointer (some ⟨d_12, 0, none⟩), .string (name), .slice (a_66) ((x ++ y).length) (c_67)]) en19 rfl (dcast (appendD hD_15 name _ _ _ (by first | omega | decide) ho_69.sl (fun x_ hx_ => pr_72 _ ⟨x_, hx_, rfl⟩) (by rw [List.length_append]; omega)) hpc.1 hpc.2) ?_
        rintro _ w_79 ⟨F_78, rfl, hD_80, hm_81, K_82⟩
        have pr_83 : ∀ q_, F_78 q_ → ¬ own a_20 q_ := hm_81.apart (fun q_ h1 h2 => pr_27 q_ h2 h1) ho_23.own_lt
        have pr_84 : ∀ q_, F_78 q_ → ¬ own a_37 q_ := hm_81.apart (fun q_ h1 h2 => pr_43 q_ h2 h1) ho_40.own_lt
        have pr_85 : ∀ q_, F_78 q_ → ¬ F_47 q_ := hm_81.apart (fun q_ h1 h2 => pr_52 q_ h2 h1) hD_49.own_lt
        have pr_86 : ∀ q_, F_78 q_ → ¬ own (some ⟨b_56, 0, none⟩) q_ := hm_81.apart (fun q_ h1 h2 => pr_61 q_ h2 h1) ho_59.own_lt
        have pr_87 : ∀ q_, F_78 q_ → ¬ own a_66 q_ := hm_81.apart (fun q_ h1 h2 => pr_72 q_ h2 h1) ho_69.own_lt
        have pg_88 : ∀ q_, F_78 q_ → w.heap.size ≤ q_ := hm_81.ge pg_19 K0.size
        replace ho_23 := ho_23.keepO K_82 pr_27
        replace ho_40 := ho_40.keepO K_82 pr_43
        replace hD_49 := hD_49.keepO K_82 pr_52
        replace ho_59 := ho_59.keepO K_82 pr_61
        replace ho_69 := ho_69.keepO K_82 pr_72
        replace K0 := K0.new K_82 pg_19
        clear hm_81
        refine RL.val (litT (x_eqI rfl rfl) (by decide)) ?_
        refine RL.val (x_moveB rfl) ?_
        refine RL.gst (wantedT1 rfl rfl rfl rfl) <| St1.val (x_moveP rfl) ?_
        refine RL.gst (wantedT1 rfl rfl rfl rfl) <| St1.val (x_moveP rfl) ?_
        refine RL.gst (wantedT1 rfl rfl rfl rfl) <| St1.call (vals := [.pointer (some ⟨d_12, 0, none⟩), .pointer (some ⟨d_1, 0, none⟩), .bool (true)]) en34 rfl (alikeTwo_ _ _ _ _ _ _ _ _ true _ hD_80 hD_49 (Alike.refl _ _)) ?_
        rintro _ w_89 ⟨rfl, K_90⟩
        replace ho_23 := ho_23.ext K_90
        replace ho_40 := ho_40.ext K_90
        replace hD_49 := hD_49.ext K_90
        replace ho_59 := ho_59.ext K_90
        replace ho_69 := ho_69.ext K_90
        replace hD_80 := hD_80.ext K_90
        replace K0 := K0.ext K_90
        refine RL.val (x_andT rfl rfl rfl) ?_
        refine RL.val (x_assignB rfl) ?_
        refine RL.nil ?_
        refine Run.ret1 (v := .bool (true)) Try.func7 rfl rfl ?_
        exact ⟨_, rfl, rfl, K0⟩
    · refine Run.region ?_
      refine RL.val (x_moveP rfl) ?_
      refine RL.val (x_moveS rfl) ?_
      refine RL.val (x_moveSl rfl) ?_
      refine RL.st rfl <| St1.call (vals := [.slice (a3) (x.length) (c3)]) en32 rfl (clone_byte _ _ _ _ (hsx.ext K0) (by omega)) ?_
      rintro _ w_93 ⟨a_91, c_92, rfl, ho_94, hg_95, K_96⟩
      have pr_97 : ∀ q_, own a_91 q_ → ¬ F_2 q_ := apartNew hg_95 hD_4.own_lt
      have pr_98 : ∀ q_, own a_91 q_ → ¬ F_13 q_ := apartNew hg_95 hD_15.own_lt
      have pg_99 : ∀ q_, own a_91 q_ → w.heap.size ≤ q_ := fun q_ h => Nat.le_trans K0.size (hg_95 q_ h)
      clear hg_95
      replace hD_4 := hD_4.ext K_96
      replace hD_15 := hD_15.ext K_96
      replace K0 := K0.ext K_96
      refine RL.st rfl <| St1.call (vals := [.pointer (some ⟨d_1, 0, none⟩), .string (name), .slice (a_91) (x.length) (c_92)]) en19 rfl (appendD hD_4 name _ _ _ (by first | omega | decide) ho_94.sl (fun x_ hx_ => pr_97 _ ⟨x_, hx_, rfl⟩) (by first | omega | decide)) ?_
      rintro _ w_101 ⟨F_100, rfl, hD_102, hm_103, K_104⟩
      have pr_105 : ∀ q_, F_100 q_ → ¬ F_13 q_ := hm_103.apart (fun q_ h1 h2 => pr_18 q_ h2 h1) hD_15.own_lt
      have pr_106 : ∀ q_, F_100 q_ → ¬ own a_91 q_ := hm_103.apart (fun q_ h1 h2 => pr_97 q_ h2 h1) ho_94.own_lt
      have pg_107 : ∀ q_, F_100 q_ → w.heap.size ≤ q_ := hm_103.ge pg_9 K0.size
      replace hD_15 := hD_15.keepO K_104 pr_18
      replace ho_94 := ho_94.keepO K_104 pr_97
      replace K0 := K0.new K_104 pg_9
      clear hm_103
      refine RL.val (litT (x_neI rfl rfl) (by simpa using h7)) ?_
      refine RL.val (x_moveB rfl) ?_
      refine RL.guardF (wantedF0 rfl rfl rfl rfl) ?_
      refine RL.guardF (wantedF0 rfl rfl rfl rfl) ?_
      refine RL.guardF (wantedF0 rfl rfl rfl rfl) ?_
      refine RL.guardF (wantedF0 rfl rfl rfl rfl) ?_
      refine RL.guardF (wantedF0 rfl rfl rfl rfl) ?_
      refine RL.guardF (wantedF0 rfl rfl rfl rfl) ?_
      refine RL.val (x_or (b := true) (e := false) rfl rfl rfl) ?_
      refine RL.nil ?_
      refine Run.condT rfl ?_
      refine Run.seq ?_
      refine Run.region ?_
      refine RL.val (x_assignB rfl) ?_
      refine RL.nil ?_
      refine Run.ret1 (v := .bool (true)) Try.func7 rfl rfl ?_
      exact ⟨_, rfl, rfl, K0⟩

set_option maxRecDepth 100000 in
set_option maxHeartbeats 4000000 in
theorem law_apart (room : Int) (a1 : Option Addr) (os : List DoC) (c1 : Nat) (ps : List DoP) (o : DoC) (b : List UInt8) (pts : List PTear) (w : World) (hs1 : SlOf w a1 os) (hps : DosAt w os ps) (hl1 : os.length ≤ 4294967295) (hdo : DoAt w o b pts) :
    Calls Try.prog 4 #[.int .i64 (room), .slice (a1) (os.length) (c1), .agg #[.int .i64 ((o).op), .string ((o).name), .string ((o).other), .slice ((o).bytes.a) ((o).bytes.len) ((o).bytes.cap), .slice ((o).tears.a) ((o).tears.len) ((o).tears.cap)]] w (Ret (fun v w' => v = .bool true ∧ Ext w w')) := by
  refine calls_run (n := 111) Try.func4 rfl rfl rfl ?_
  refine Run.seq ?_
  refine Run.region ?_
  refine RL.st rfl <| St1.box (v := .agg #[.int .i64 ((o).op), .string ((o).name), .string ((o).other), .slice ((o).bytes.a) ((o).bytes.len) ((o).bytes.cap), .slice ((o).tears.a) ((o).tears.len) ((o).tears.cap)]) rfl ?_
  intro b_1 w_2 hl_5 hb_4 K_3
  replace hb_4 : Blk w_2 b_1 [.int .i64 ((o).op), .string ((o).name), .string ((o).other), .slice ((o).bytes.a) ((o).bytes.len) ((o).bytes.cap), .slice ((o).tears.a) ((o).tears.len) ((o).tears.cap)] 34 := hb_4
  have : w.heap.size ≤ b_1 := hl_5
  clear hl_5
  have K0 := (K_3 : Ext w _)
  refine RL.val (x_assignB rfl) ?_
  refine RL.nil ?_
  refine Run.seq ?_
  refine Run.region ?_
  refine RL.val (x_moveI rfl) ?_
  refine RL.val (x_moveSl rfl) ?_
  refine RL.st rfl <| St1.call (vals := [.int .i64 (room), .slice (a1) (os.length) (c1)]) en10 rfl (begun_ _ _ _ _ ps _ (hs1.ext K0) (hps.ext K0) (by omega)) ?_
  rintro _ w_8 (⟨hnr, rfl, K_11⟩ | ⟨hrm, d_6, F_7, rfl, hD_9, hg_10, K_11⟩)
  · replace hb_4 := hb_4.ext K_11
    replace K0 := K0.ext K_11
    refine RL.val (x_assignP rfl) ?_
    refine RL.nil ?_
    refine Run.seq ?_
    refine Run.seq ?_
    refine Run.region ?_
    refine RL.val (x_moveP rfl) ?_
    refine RL.val (litT (x_ptrNil Try.underlying23 rfl rfl) rfl) ?_
    refine RL.val (x_moveB rfl) ?_
    refine RL.guardF (wantedF0 rfl rfl rfl rfl) ?_
    refine RL.guardF (wantedF0 rfl rfl rfl rfl) ?_
    refine RL.val (x_or (b := true) (e := false) rfl rfl rfl) ?_
    refine RL.nil ?_
    refine Run.condT rfl ?_
    refine Run.seq ?_
    refine Run.region ?_
    refine RL.st rfl <| St1.call (vals := []) en11 rfl (awake_ _) ?_
    rintro _ w_12 ⟨rfl, K_13⟩
    replace hb_4 := hb_4.ext K_13
    replace K0 := K0.ext K_13
    refine RL.val (x_assignB rfl) ?_
    refine RL.nil ?_
    refine Run.ret1 (v := .bool (true)) Try.func4 rfl rfl ?_
    exact ⟨_, rfl, rfl, K0⟩
  · have pr_14 : ¬ F_7 b_1 := notNew hg_10 hb_4.lt
    have pg_15 : ∀ q_, F_7 q_ → w.heap.size ≤ q_ := fun q_ h => Nat.le_trans K0.size (hg_10 q_ h)
    clear hg_10
    replace hb_4 := hb_4.ext K_11
    replace K0 := K0.ext K_11
    refine RL.val (x_assignP rfl) ?_
    refine RL.nil ?_
    refine Run.seq ?_
    refine Run.seq ?_
    refine Run.region ?_
    refine RL.val (x_moveP rfl) ?_
    refine RL.val (litF (x_ptrNil Try.underlying23 rfl rfl) rfl) ?_
    refine RL.val (x_moveB rfl) ?_
    refine RL.gst (wantedF1 rfl rfl rfl rfl) <| St1.call (vals := []) en11 rfl (awake_ _) ?_
    rintro _ w_16 ⟨rfl, K_17⟩
    replace hb_4 := hb_4.ext K_17
    replace hD_9 := hD_9.ext K_17
    replace K0 := K0.ext K_17
    refine RL.gst (wantedF1 rfl rfl rfl rfl) <| St1.val (x_not rfl) ?_
    refine RL.val (x_orF rfl rfl rfl) ?_
    refine RL.nil ?_
    refine Run.condF rfl ?_
    refine Run.skip ?_
    refine Run.seq ?_
    refine Run.seq ?_
    refine Run.region ?_
    refine RL.val (x_fld (o' := 0) Try.underlying34 rfl ty3 rfl rfl rfl) ?_
    refine RL.val (x_ld (v := .int .i64 ((o).op)) ty3 rfl rfl (hb_4.cl.field (i := 0) rfl)) ?_
    refine RL.val (x_convI rfl ⟨_, Try.underlying3⟩ Try.underlying35) ?_
    refine RL.val (litI (c := opc o.op) (x_rem rfl rfl (by decide)) rfl) ?_
    refine RL.val (x_gtI rfl rfl) ?_
    refine RL.nil ?_
    refine Run.cond rfl (fun hc35 => ?_) (fun hc35 => ?_)
    · try simp only [br] at hc35
      refine Run.seq ?_
      refine Run.region ?_
      refine RL.val (x_assignB rfl) ?_
      refine RL.nil ?_
      refine Run.ret1 (v := .bool (true)) Try.func4 rfl rfl ?_
      exact ⟨_, rfl, rfl, K0⟩
    · try simp only [br] at hc35
      have hop : opc o.op ≤ 5 := by omega
      refine Run.skip ?_
      refine Run.seq ?_
      refine Run.region ?_
      refine RL.val (x_moveP rfl) ?_
      refine RL.st rfl <| St1.call (vals := [.pointer (some ⟨d_6, 0, none⟩)]) en16 rfl (copyD hD_9) ?_
      rintro _ w_20 ⟨d_18, F_19, rfl, hD_21, hg_22, K_23⟩
      have pr_24 : ¬ F_19 b_1 := notNew hg_22 hb_4.lt
      have pr_25 : ∀ q_, F_19 q_ → ¬ F_7 q_ := apartNew hg_22 hD_9.own_lt
      have pg_26 : ∀ q_, F_19 q_ → w.heap.size ≤ q_ := fun q_ h => Nat.le_trans K0.size (hg_22 q_ h)
      clear hg_22
      replace hb_4 := hb_4.ext K_23
      replace hD_9 := hD_9.ext K_23
      replace K0 := K0.ext K_23
      refine RL.val (x_assignP rfl) ?_
      refine RL.nil ?_
      refine Run.seq ?_
      refine Run.seq ?_
      refine Run.region ?_
      refine RL.val (x_moveP rfl) ?_
      refine RL.val (litF (x_ptrNil Try.underlying23 rfl rfl) rfl) ?_
      refine RL.nil ?_
      refine Run.condF rfl ?_
      refine Run.skip ?_
      refine Run.seq ?_
      refine Run.region ?_
      refine RL.val (x_moveP rfl) ?_
      refine RL.val (x_lds (cs := #[.int .i64 ((o).op), .string ((o).name), .string ((o).other), .slice ((o).bytes.a) ((o).bytes.len) ((o).bytes.cap), .slice ((o).tears.a) ((o).tears.len) ((o).tears.cap)]) ty34 rfl rfl (hb_4.cl.drop 0 5)) ?_
      refine RL.st rfl <| St1.call (vals := [.pointer (some ⟨d_6, 0, none⟩), .agg #[.int .i64 ((o).op), .string ((o).name), .string ((o).other), .slice ((o).bytes.a) ((o).bytes.len) ((o).bytes.cap), .slice ((o).tears.a) ((o).tears.len) ((o).tears.cap)]]) en14 rfl (call_ _ _ _ (begunL room ps) _ _ _ _ hD_9 (hdo.ext K0)) ?_
      rintro _ w_28 ⟨rfl, F_27, hD_29, hm_30, K_31⟩
      have pr_32 : ¬ F_27 b_1 := hm_30.not pr_14 hb_4.lt
      have pr_33 : ∀ q_, F_27 q_ → ¬ F_19 q_ := hm_30.apart (fun q_ h1 h2 => pr_25 q_ h2 h1) hD_21.own_lt
      have pg_34 : ∀ q_, F_27 q_ → w.heap.size ≤ q_ := hm_30.ge pg_15 K0.size
      replace hb_4 := hb_4.keep K_31 pr_14
      replace hD_21 := hD_21.keepO K_31 pr_25
      replace K0 := K0.new K_31 pg_15
      clear hm_30
      refine RL.nil ?_
      refine Run.seq ?_
      refine Run.seq ?_
      have hln0 := names_len (hD_21).ok
      have hln1 := names_len (hD_29).ok
      have hlna : (namesS (stepL room (begunL room ps) (⟨o.op, o.name, o.other, b, pts⟩ : DoP)) ++ namesS (begunL room ps)).length ≤ 128 := by rw [List.length_append]; omega
      refine Run.region ?_
      refine RL.val (x_moveP rfl) ?_
      refine RL.st rfl <| St1.call (vals := [.pointer (some ⟨d_6, 0, none⟩)]) en17 rfl (filesD hD_29) ?_
      rintro _ w_37 ⟨a_35, c_36, rfl, ho_38, hg_39, K_40⟩
      have pr_41 : ¬ own a_35 b_1 := notNew hg_39 hb_4.lt
      have pr_42 : ∀ q_, own a_35 q_ → ¬ F_19 q_ := apartNew hg_39 hD_21.own_lt
      have pr_43 : ∀ q_, own a_35 q_ → ¬ F_27 q_ := apartNew hg_39 hD_29.own_lt
      have pg_44 : ∀ q_, own a_35 q_ → w.heap.size ≤ q_ := fun q_ h => Nat.le_trans K0.size (hg_39 q_ h)
      clear hg_39
      replace hb_4 := hb_4.ext K_40
      replace hD_21 := hD_21.ext K_40
      replace hD_29 := hD_29.ext K_40
      replace K0 := K0.ext K_40
      refine RL.val (x_moveP rfl) ?_
      refine RL.st rfl <| St1.call (vals := [.pointer (some ⟨d_18, 0, none⟩)]) en17 rfl (filesD hD_21) ?_
      rintro _ w_47 ⟨a_45, c_46, rfl, ho_48, hg_49, K_50⟩
      have pr_51 : ¬ own a_45 b_1 := notNew hg_49 hb_4.lt
      have pr_52 : ∀ q_, own a_45 q_ → ¬ F_19 q_ := apartNew hg_49 hD_21.own_lt
      have pr_53 : ∀ q_, own a_45 q_ → ¬ F_27 q_ := apartNew hg_49 hD_29.own_lt
      have pr_54 : ∀ q_, own a_45 q_ → ¬ own a_35 q_ := apartNew hg_49 ho_38.own_lt
      have pg_55 : ∀ q_, own a_45 q_ → w.heap.size ≤ q_ := fun q_ h => Nat.le_trans K0.size (hg_49 q_ h)
      clear hg_49
      replace hb_4 := hb_4.ext K_50
      replace hD_21 := hD_21.ext K_50
      replace hD_29 := hD_29.ext K_50
      replace ho_38 := ho_38.ext K_50
      replace K0 := K0.ext K_50
      refine RL.st rfl <| St1.append (xs := namesS (stepL room (begunL room ps) (⟨o.op, o.name, o.other, b, pts⟩ : DoP))) (ys := namesS (begunL room ps)) Try.underlying40 ty9 rfl rfl rfl ho_38 ho_48.sl (by first | omega | (simp only [lr]; omega)) (by decide) ?_
      intro a_56 c_57 w_58 ho_59 K_60 hm_61 hrm_62
      have pr_63 : ¬ own a_56 b_1 := hm_61.not pr_41 hb_4.lt
      have pr_64 : ∀ q_, own a_56 q_ → ¬ F_19 q_ := hm_61.apart pr_42 hD_21.own_lt
      have pr_65 : ∀ q_, own a_56 q_ → ¬ F_27 q_ := hm_61.apart pr_43 hD_29.own_lt
      have pr_66 : ∀ q_, own a_56 q_ → ¬ own a_45 q_ := hm_61.apart (fun q_ h1 h2 => pr_54 q_ h2 h1) ho_48.own_lt
      have pg_67 : ∀ q_, own a_56 q_ → w.heap.size ≤ q_ := hm_61.ge pg_44 K0.size
      replace hb_4 := hb_4.keep K_60 pr_41
      replace hD_21 := hD_21.keepO K_60 (fun q_ h1 h2 => pr_42 q_ h2 h1)
      replace hD_29 := hD_29.keepO K_60 (fun q_ h1 h2 => pr_43 q_ h2 h1)
      replace ho_48 := ho_48.keepO K_60 pr_54
      replace K0 := K0.new K_60 pg_44
      clear hm_61
      clear hrm_62
      refine RL.val (x_lenSl Try.underlying40 rfl) ?_
      refine RL.val (x_moveI rfl) ?_
      refine RL.nil ?_
      refine Run.block ?_
      refine Run.loop (ι := Nat) (fun i ρ' w' => Holds ρ' [(5, .pointer (some ⟨b_1, 0, none⟩)), (7, .pointer (some ⟨d_6, 0, none⟩)), (8, .pointer (some ⟨d_18, 0, none⟩)), (47, .slice (a_56) (((namesS (stepL room (begunL room ps) (⟨o.op, o.name, o.other, b, pts⟩ : DoP))) ++ namesS (begunL room ps)).length) (c_57)), (48, .int .i64 (((((namesS (stepL room (begunL room ps) (⟨o.op, o.name, o.other, b, pts⟩ : DoP))) ++ namesS (begunL room ps)).length : Nat) : Int))), (49, .int .i64 (((i : Nat) : Int)))] ∧ Ext w w' ∧ (Blk w' b_1 [.int .i64 ((o).op), .string ((o).name), .string ((o).other), .slice ((o).bytes.a) ((o).bytes.len) ((o).bytes.cap), .slice ((o).tears.a) ((o).tears.len) ((o).tears.cap)] 34) ∧ (DiskAt w' d_18 F_19 room (begunL room ps)) ∧ (DiskAt w' d_6 F_27 room (stepL room (begunL room ps) (⟨o.op, o.name, o.other, b, pts⟩ : DoP))) ∧ (OwnSl w' 9 (a_45) (c_46) (namesS (begunL room ps))) ∧ (OwnSl w' 9 (a_56) (c_57) ((namesS (stepL room (begunL room ps) (⟨o.op, o.name, o.other, b, pts⟩ : DoP))) ++ namesS (begunL room ps))) ∧ (i ≤ (namesS (stepL room (begunL room ps) (⟨o.op, o.name, o.other, b, pts⟩ : DoP)) ++ namesS (begunL room ps)).length)) (fun i => (namesS (stepL room (begunL room ps) (⟨o.op, o.name, o.other, b, pts⟩ : DoP)) ++ namesS (begunL room ps)).length - i) 0 ?_ ?_
      · refine ⟨⟨rfl, rfl, rfl, rfl, rfl, rfl, trivial⟩, K0, hb_4, hD_21, hD_29, ho_48, ho_59, ?_⟩
        · omega
      clear hb_4 hD_21 hD_29 ho_48 ho_59
      clear K0
      rintro i ρ_70 w_68 ⟨hH_69, K0, hb_4, hD_21, hD_29, ho_48, ho_59, hi⟩ ih1
      obtain ⟨ρ₀, rfl⟩ := hH_69.ex
      clear hH_69
      refine Run.seq ?_
      refine Run.region ?_
      refine RL.val (x_ltI rfl rfl) ?_
      refine RL.nil ?_
      refine Run.seq ?_
      refine Run.cond rfl (fun hc50 => ?_) (fun hc50 => ?_)
      · try simp only [br] at hc50
        refine Run.skip ?_
        refine Run.seq ?_
        refine Run.block ?_
        refine Run.seq ?_
        refine Run.region ?_
        obtain ⟨b_71, o_72, s, hx, ha_73, hc_74⟩ := ho_59.sl.el (i := i) (by first | omega | (simp only [List.length_set]; omega))
        refine RL.val (x_idxN Try.underlying40 ty9 rfl rfl ha_73 (by first | omega | (simp only [List.length_set]; omega))) ?_
        refine RL.val (x_ldV (v := .string (s)) (y := s) ty9 rfl hc_74 rfl) ?_
        refine RL.val (x_assignS rfl) ?_
        refine RL.nil ?_
        have hmm := List.mem_of_getElem? hx
        have hns : s.size ≤ 4294967295 := (List.mem_append.1 hmm).elim (fun h => names_size (hD_29).ok h) (fun h => names_size (hD_21).ok h)
        refine Run.seq ?_
        refine Run.seq ?_
        refine Run.region ?_
        refine RL.val (x_moveS rfl) ?_
        refine RL.val (x_fld (o' := 1) Try.underlying34 rfl ty9 rfl rfl rfl) ?_
        refine RL.val (x_ld (v := .string ((o).name)) ty9 rfl rfl (hb_4.cl.field (i := 1) rfl)) ?_
        refine RL.val (x_eqS rfl rfl) ?_
        refine RL.val (x_moveB rfl) ?_
        refine RL.gval (wantedF rfl rfl rfl rfl) (fun hg => (x_moveS rfl)) ?_
        refine RL.gval (wantedF rfl rfl rfl rfl) (fun hg => (x_fld (o' := 2) Try.underlying34 rfl ty9 rfl rfl rfl)) ?_
        refine RL.gval (wantedF rfl rfl rfl rfl) (fun hg => (x_ld (v := .string ((o).other)) ty9 (gvr hg) rfl (hb_4.cl.field (i := 2) rfl))) ?_
        refine RL.gval (wantedF rfl rfl rfl rfl) (fun hg => (x_eqS (gvr hg) (gvr hg))) ?_
        refine RL.gval (wantedF rfl rfl rfl rfl) (fun hg => (x_moveB (gvr hg))) ?_
        refine RL.gval (wantedGT rfl rfl rfl rfl) (fun hg => (x_fld (o' := 0) Try.underlying34 rfl ty3 rfl rfl rfl)) ?_
        refine RL.gval (wantedGT rfl rfl rfl rfl) (fun hg => (x_ld (v := .int .i64 ((o).op)) ty3 (gvr hg) rfl (hb_4.cl.field (i := 0) rfl))) ?_
        refine RL.gval (wantedGT rfl rfl rfl rfl) (fun hg => (x_convI (gvr hg) ⟨_, Try.underlying3⟩ Try.underlying35)) ?_
        refine RL.gval (wantedGT rfl rfl rfl rfl) (fun hg => (litI (c := opc o.op) (x_rem (gvr hg) rfl (by decide)) rfl)) ?_
        refine RL.gval (wantedGT rfl rfl rfl rfl) (fun hg => (x_eqI (gvr hg) rfl)) ?_
        refine RL.gval (wantedF rfl rfl rfl rfl) (fun hg => (x_andG hg rfl rfl rfl)) ?_
        refine RL.val (x_or rfl rfl rfl) ?_
        refine RL.nil ?_
        refine Run.cond rfl (fun hc69 => ?_) (fun hc69 => ?_)
        · try simp only [br] at hc69
          refine Run.exit rfl ?_
          refine Run.region ?_
          refine RL.val (litI (c := ((i + 1 : Nat) : Int)) (x_add rfl rfl (by omega) (by omega)) rfl) ?_
          refine RL.val (x_moveI rfl) ?_
          refine RL.nil ?_
          refine ih1 (i + 1) _ _ ?_ (by omega)
          refine ⟨⟨rfl, rfl, rfl, rfl, rfl, rfl, trivial⟩, K0, hb_4, hD_21, hD_29, ho_48, ho_59, ?_⟩
          · omega
        · try simp only [br] at hc69
          have hsl := same_look (look_step (room := room) (pl := (begunL room ps)) (p := (⟨o.op, o.name, o.other, b, pts⟩ : DoP)) (s := s) hop hc69.1 (fun h4 => hc69.2.resolve_right (fun h => h h4)))
          refine Run.skip ?_
          refine Run.seq ?_
          refine Run.region ?_
          refine RL.val (x_moveP rfl) ?_
          refine RL.val (x_moveS rfl) ?_
          refine RL.st rfl <| St1.call (vals := [.pointer (some ⟨d_6, 0, none⟩), .string (s)]) en12 rfl (readD hD_29 s (by first | omega | decide)) ?_
          rintro _ w_79 ⟨a_77, c_78, rfl, ho_80, hg_81, K_82⟩
          have pr_83 : ¬ own a_77 b_1 := notNew hg_81 hb_4.lt
          have pr_84 : ∀ q_, own a_77 q_ → ¬ F_19 q_ := apartNew hg_81 hD_21.own_lt
          have pr_85 : ∀ q_, own a_77 q_ → ¬ F_27 q_ := apartNew hg_81 hD_29.own_lt
          have pr_86 : ∀ q_, own a_77 q_ → ¬ own a_45 q_ := apartNew hg_81 ho_48.own_lt
          have pr_87 : ∀ q_, own a_77 q_ → ¬ own a_56 q_ := apartNew hg_81 ho_59.own_lt
          have pg_88 : ∀ q_, own a_77 q_ → w.heap.size ≤ q_ := fun q_ h => Nat.le_trans K0.size (hg_81 q_ h)
          clear hg_81
          replace hb_4 := hb_4.ext K_82
          replace hD_21 := hD_21.ext K_82
          replace hD_29 := hD_29.ext K_82
          replace ho_48 := ho_48.ext K_82
          replace ho_59 := ho_59.ext K_82
          replace K0 := K0.ext K_82
          refine RL.val (x_moveT rfl) ?_
          refine RL.val (x_extract rfl rfl) ?_
          refine RL.val (x_extract rfl rfl) ?_
          refine RL.val (x_assignSl rfl) ?_
          refine RL.val (x_assignI rfl) ?_
          refine RL.nil ?_
          refine Run.seq ?_
          refine Run.region ?_
          refine RL.val (x_moveP rfl) ?_
          refine RL.val (x_moveS rfl) ?_
          refine RL.st rfl <| St1.call (vals := [.pointer (some ⟨d_18, 0, none⟩), .string (s)]) en12 rfl (readD hD_21 s (by first | omega | decide)) ?_
          rintro _ w_91 ⟨a_89, c_90, rfl, ho_92, hg_93, K_94⟩
          have pr_95 : ¬ own a_89 b_1 := notNew hg_93 hb_4.lt
          have pr_96 : ∀ q_, own a_89 q_ → ¬ F_19 q_ := apartNew hg_93 hD_21.own_lt
          have pr_97 : ∀ q_, own a_89 q_ → ¬ F_27 q_ := apartNew hg_93 hD_29.own_lt
          have pr_98 : ∀ q_, own a_89 q_ → ¬ own a_45 q_ := apartNew hg_93 ho_48.own_lt
          have pr_99 : ∀ q_, own a_89 q_ → ¬ own a_56 q_ := apartNew hg_93 ho_59.own_lt
          have pr_100 : ∀ q_, own a_89 q_ → ¬ own a_77 q_ := apartNew hg_93 ho_80.own_lt
          have pg_101 : ∀ q_, own a_89 q_ → w.heap.size ≤ q_ := fun q_ h => Nat.le_trans K0.size (hg_93 q_ h)
          clear hg_93
          replace hb_4 := hb_4.ext K_94
          replace hD_21 := hD_21.ext K_94
          replace hD_29 := hD_29.ext K_94
          replace ho_48 := ho_48.ext K_94
          replace ho_59 := ho_59.ext K_94
          replace ho_80 := ho_80.ext K_94
          replace K0 := K0.ext K_94
          refine RL.val (x_moveT rfl) ?_
          refine RL.val (x_extract rfl rfl) ?_
          refine RL.val (x_extract rfl rfl) ?_
          refine RL.val (x_assignSl rfl) ?_
          refine RL.val (x_assignI rfl) ?_
          refine RL.nil ?_
          refine Run.seq ?_
          refine Run.region ?_
          refine RL.val (x_moveP rfl) ?_
          refine RL.val (x_moveS rfl) ?_
          refine RL.st rfl <| St1.call (vals := [.pointer (some ⟨d_6, 0, none⟩), .string (s)]) en13 rfl (sizeD hD_29 s (by first | omega | decide)) ?_
          rintro _ w_102 ⟨rfl, K_103⟩
          replace hb_4 := hb_4.ext K_103
          replace hD_21 := hD_21.ext K_103
          replace hD_29 := hD_29.ext K_103
          replace ho_48 := ho_48.ext K_103
          replace ho_59 := ho_59.ext K_103
          replace ho_80 := ho_80.ext K_103
          replace ho_92 := ho_92.ext K_103
          replace K0 := K0.ext K_103
          refine RL.val (x_moveT rfl) ?_
          refine RL.val (x_extract rfl rfl) ?_
          refine RL.val (x_extract rfl rfl) ?_
          refine RL.val (x_extract rfl rfl) ?_
          refine RL.val (x_assignI rfl) ?_
          refine RL.val (x_assignI rfl) ?_
          refine RL.val (x_assignI rfl) ?_
          refine RL.nil ?_
          refine Run.seq ?_
          refine Run.region ?_
          refine RL.val (x_moveP rfl) ?_
          refine RL.val (x_moveS rfl) ?_
          refine RL.st rfl <| St1.call (vals := [.pointer (some ⟨d_18, 0, none⟩), .string (s)]) en13 rfl (sizeD hD_21 s (by first | omega | decide)) ?_
          rintro _ w_104 ⟨rfl, K_105⟩
          replace hb_4 := hb_4.ext K_105
          replace hD_21 := hD_21.ext K_105
          replace hD_29 := hD_29.ext K_105
          replace ho_48 := ho_48.ext K_105
          replace ho_59 := ho_59.ext K_105
          replace ho_80 := ho_80.ext K_105
          replace ho_92 := ho_92.ext K_105
          replace K0 := K0.ext K_105
          refine RL.val (x_moveT rfl) ?_
          refine RL.val (x_extract rfl rfl) ?_
          refine RL.val (x_extract rfl rfl) ?_
          refine RL.val (x_extract rfl rfl) ?_
          refine RL.val (x_assignI rfl) ?_
          refine RL.val (x_assignI rfl) ?_
          refine RL.val (x_assignI rfl) ?_
          refine RL.nil ?_
          refine Run.seq ?_
          refine Run.region ?_
          refine RL.val (x_moveI rfl) ?_
          refine RL.val (x_moveI rfl) ?_
          refine RL.val (x_neI rfl rfl) ?_
          refine RL.val (x_moveB rfl) ?_
          refine RL.gval (wantedF rfl rfl rfl rfl) (fun hg => (x_moveI rfl)) ?_
          refine RL.gval (wantedF rfl rfl rfl rfl) (fun hg => (x_moveI rfl)) ?_
          refine RL.gval (wantedF rfl rfl rfl rfl) (fun hg => (x_neI (gvr hg) (gvr hg))) ?_
          refine RL.val (x_or rfl rfl rfl) ?_
          refine RL.val (x_moveB rfl) ?_
          refine RL.gval (wantedF rfl rfl rfl rfl) (fun hg => (x_moveSl rfl)) ?_
          refine RL.gval (wantedF rfl rfl rfl rfl) (fun hg => (x_moveSl rfl)) ?_
          refine RL.gcall (vals := [.slice (a_77) ((readB (stepL room (begunL room ps) (⟨o.op, o.name, o.other, b, pts⟩ : DoP)) s).length) (c_78), .slice (a_89) ((readB (begunL room ps) s).length) (c_90)]) (wantedF rfl rfl rfl rfl) en18 (fun hg => (mcons (gvr hg) (mcons (gvr hg) mnil))) (fun hg => (bytesEqual _ (readB (stepL room (begunL room ps) (⟨o.op, o.name, o.other, b, pts⟩ : DoP)) s) _ _ (readB (begunL room ps) s) _ _ ho_80.sl ho_92.sl)) ?_
          intro w_106 K_107
          replace hb_4 := hb_4.ext K_107
          replace hD_21 := hD_21.ext K_107
          replace hD_29 := hD_29.ext K_107
          replace ho_48 := ho_48.ext K_107
          replace ho_59 := ho_59.ext K_107
          replace ho_80 := ho_80.ext K_107
          replace ho_92 := ho_92.ext K_107
          replace K0 := K0.ext K_107
          refine RL.gval (wantedF rfl rfl rfl rfl) (fun hg => (x_not (gvr hg))) ?_
          refine RL.val (x_or rfl rfl rfl) ?_
          refine RL.nil ?_
          refine Run.cond rfl (fun hc109 => ?_) (fun hc109 => ?_)
          · try simp only [br] at hc109
            rcases hc109 with (h | h) | h
            · exact absurd hsl.1 h
            · exact absurd (by rw [hsl.2.2]) h
            · exact absurd hsl.2.1 h
          · try simp only [br] at hc109
            refine Run.skip ?_
            refine Run.inBlock ?_
            refine Run.region ?_
            refine RL.val (litI (c := ((i + 1 : Nat) : Int)) (x_add rfl rfl (by omega) (by omega)) rfl) ?_
            refine RL.val (x_moveI rfl) ?_
            refine RL.nil ?_
            refine ih1 (i + 1) _ _ ?_ (by omega)
            refine ⟨⟨rfl, rfl, rfl, rfl, rfl, rfl, trivial⟩, K0, hb_4, hD_21, hD_29, ho_48, ho_59, ?_⟩
            · omega
      · try simp only [br] at hc50
        refine Run.exit rfl ?_
        refine Run.seq ?_
        refine Run.region ?_
        refine RL.val (x_assignB rfl) ?_
        refine RL.nil ?_
        refine Run.ret1 (v := .bool (true)) Try.func4 rfl rfl ?_
        exact ⟨_, rfl, rfl, K0⟩

end Go.Proofs.Ytambibdkanpmaaa
