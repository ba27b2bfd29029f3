/-
  DiskStays.
-/
import Derived.Test.YtambibdkanpmaaaRows
import Derived.Test.YtambibdkanpmaaaDh
namespace Go.Proofs.Ytambibdkanpmaaa
attribute [local irreducible] St1 RL RA RT RT1 Run

/-! ### what is synced stays -/
theorem lookL_map {pl : List PF} {u : PF → PF} (hu : ∀ f, (u f).name = f.name) (n : ByteArray) : lookL (pl.map u) n = (lookL pl n).map u := by
  induction pl with
  | nil => rfl
  | cons x l ih =>
    rw [lookL, lookL, List.map_cons, List.find?_cons, List.find?_cons, hu]
    by_cases c : x.name = n
    · simp [c]
    · simp only [c, decide_false]; exact ih
theorem lookL_upd {pl : List PF} {u : PF → PF} (hu : ∀ f, (u f).name = f.name) (m n : ByteArray) : lookL (updL pl m u) n = (lookL pl n).map (fun f => if f.name = m then u f else f) :=
  lookL_map (u := fun f => if f.name = m then u f else f) (fun f => by show (if f.name = m then u f else f).name = f.name; split; exact hu f; rfl) n
theorem lookL_app {pl : List PF} {x f : PF} {n : ByteArray} (h : lookL pl n = some f) : lookL (pl ++ [x]) n = some f := by rw [lookL, List.find?_append]; rw [lookL] at h; rw [h]; rfl
theorem lookL_rem {pl : List PF} {m n : ByteArray} (h : m ≠ n) : lookL (remL pl m) n = lookL pl n := by
  induction pl with
  | nil => rfl
  | cons x l ih =>
    rw [remL, List.filter_cons]
    by_cases c : x.name = n
    · rw [if_pos (by rw [c]; simpa using fun e => h e.symm), lookL, lookL, List.find?_cons, List.find?_cons]; simp [c]
    · by_cases c2 : x.name = m
      · rw [if_neg (by simpa using c2)]
        have : lookL (x :: l) n = lookL l n := by rw [lookL, List.find?_cons]; simp only [c, decide_false]; rfl
        rw [this]; exact ih
      · rw [if_pos (by simpa using c2)]
        have e1 : lookL (x :: l) n = lookL l n := by rw [lookL, List.find?_cons]; simp only [c, decide_false]; rfl
        have e2 : lookL (x :: List.filter (fun f => decide (f.name ≠ m)) l) n = lookL (remL l m) n := by rw [lookL, List.find?_cons]; simp only [c, decide_false]; rfl
        rw [e1, e2]; exact ih
structure Stays (n : ByteArray) (bs : List UInt8) (pl : List PF) : Prop where
  may : mayN n = true
  ex : ∃ f, lookL pl n = some f ∧ bs.length ≤ f.synced ∧ f.bytes.take bs.length = bs
theorem has_look {pl : List PF} {n : ByteArray} {f : PF} (h : lookL pl n = some f) : hasL pl n = true := by obtain ⟨h1, h2⟩ := lookL_some h; exact hasL_iff.2 ⟨f, h1, h2⟩
theorem lookE_some {pl : List PF} {n : ByteArray} {f : PF} (hm : mayN n = true) (h : lookL pl n = some f) : lookE pl n = 0 := by rw [lookE, if_pos hm, has_look h]; rfl
theorem lookE_zero {pl : List PF} {n : ByteArray} (h : lookE pl n = 0) : mayN n = true ∧ ∃ f, lookL pl n = some f := by
  unfold lookE at h
  split at h
  · rename_i hm
    split at h
    · rename_i hh
      refine ⟨hm, ?_⟩
      cases hl : lookL pl n with
      | some f => exact ⟨f, rfl⟩
      | none =>
        obtain ⟨f, hf, e⟩ := hasL_iff.1 hh
        have := List.find?_eq_none.1 hl f hf
        simp [e] at this
    · cases h
  · cases h
theorem Stays.read {n : ByteArray} {bs : List UInt8} {pl : List PF} (h : Stays n bs pl) : lookE pl n = 0 ∧ (readB pl n).take bs.length = bs := by
  obtain ⟨f, h1, h2, h3⟩ := h.ex
  exact ⟨lookE_some h.may h1, by rw [readB, h1]; exact h3⟩
theorem sync_le {room : Int} {pl : List PF} (h : PLOk room pl) (n : ByteArray) : syncB pl n ≤ (readB pl n).length := by
  unfold syncB readB
  cases hl : lookL pl n with
  | none => exact Nat.zero_le _
  | some f => exact h.sync f (lookL_some hl).1
theorem Stays.begin {room : Int} {n : ByteArray} {pl : List PF} (h : PLOk room pl) (he : lookE pl n = 0) : Stays n ((readB pl n).take (syncB pl n)) pl := by
  obtain ⟨hm, f, hf⟩ := lookE_zero he
  refine ⟨hm, f, hf, ?_, ?_⟩
  · rw [List.length_take, syncB, hf]; exact Nat.min_le_left _ _
  · have := sync_le h n
    rw [List.length_take, Nat.min_eq_left this, readB, hf]; rfl
theorem Stays.upd {n m : ByteArray} {bs : List UInt8} {pl : List PF} {u : PF → PF} (h : Stays n bs pl) (hu : ∀ f, (u f).name = f.name) (hp : ∀ f ∈ pl, bs.length ≤ f.synced → f.bytes.take bs.length = bs → bs.length ≤ (u f).synced ∧ (u f).bytes.take bs.length = bs) : Stays n bs (updL pl m u) := by
  obtain ⟨f, h1, h2, h3⟩ := h.ex
  refine ⟨h.may, _, by rw [lookL_upd hu, h1]; rfl, ?_⟩
  show _ ≤ (if f.name = m then u f else f).synced ∧ List.take _ (if f.name = m then u f else f).bytes = _
  split
  · exact hp f (lookL_some h1).1 h2 h3
  · exact ⟨h2, h3⟩
theorem take_pre {bs a b : List UInt8} {k : Nat} (h : a.take bs.length = bs) (hk : bs.length ≤ k) : (a.take k ++ b).take bs.length = bs := by
  have hl : bs.length ≤ a.length := by have := congrArg List.length h; rw [List.length_take] at this; omega
  rw [List.take_append_of_le_length (by rw [List.length_take]; omega), List.take_take, Nat.min_eq_left hk, h]
theorem Stays.step {room : Int} {n : ByteArray} {bs : List UInt8} {pl : List PF} {p : DoP} (h : Stays n bs pl) (hk : PLOk room pl) (h7 : ¬ opc p.op = 7) (h5 : ¬ (opc p.op = 5 ∧ p.name = n)) (h4 : ¬ (opc p.op = 4 ∧ (p.name = n ∨ p.other = n))) (h8 : 0 ≤ opc p.op ∧ opc p.op < 8) : Stays n bs (stepL room pl p) := by
  unfold stepL
  split
  · unfold appL
    split
    · split
      · exact h.upd (fun _ => rfl) fun f _ h2 h3 => ⟨h2, by
          have hl : bs.length ≤ f.bytes.length := by have := congrArg List.length h3; rw [List.length_take] at this; omega
          simp only; rw [List.take_append_of_le_length hl]; exact h3⟩
      · obtain ⟨f, h1, h2, h3⟩ := h.ex
        exact ⟨h.may, f, lookL_app h1, h2, h3⟩
    · exact h
  · split
    · exact h.upd (fun _ => rfl) fun f hf h2 h3 => ⟨by have := hk.sync f hf; simp only; omega, h3⟩
    · split
      · rename_i hop
        unfold renL
        split
        · split
          · obtain ⟨f, h1, h2, h3⟩ := h.ex
            exact ⟨h.may, f, lookL_app (by rw [lookL_rem (fun e => h4 ⟨hop, .inr e⟩), lookL_rem (fun e => h4 ⟨hop, .inl e⟩)]; exact h1), h2, h3⟩
          · exact h
        · exact h
      · split
        · rename_i hop
          obtain ⟨f, h1, h2, h3⟩ := h.ex
          exact ⟨h.may, f, by rw [lookL_rem (fun e => h5 ⟨hop, e⟩)]; exact h1, h2, h3⟩
        · split
          · unfold crashL
            split
            · rename_i he
              obtain ⟨f, h1, h2, h3⟩ := h.ex
              have hs := hk.sync f (lookL_some h1).1
              refine ⟨h.may, _, by rw [lookL_map (crashF_name _), h1]; rfl, ?_⟩
              unfold crashF
              split
              · rename_i t ht
                have ht2 : t.name = f.name := by have := List.find?_some ht; simpa using this
                obtain ⟨f0, h5, h6⟩ := tornE_ok he t (List.mem_of_find?_eq_some ht)
                refine ⟨?_, by rw [tornB]; exact take_pre h3 (by omega)⟩
                simp only [tornB, List.length_append, List.length_take]
                omega
              · refine ⟨by simp only [List.length_take]; omega, ?_⟩
                have := take_pre (b := []) h3 h2
                rwa [List.append_nil] at this
            · exact h
          · exfalso; omega
theorem opc_range (z : Int) : 0 ≤ opc z ∧ opc z < 8 := by
  have h1 : 0 ≤ IntKind.u64.wrap z := by
    have e2 : IntKind.u64.signed = false := rfl
    have e1 : IntKind.u64.bits = 64 := rfl
    unfold IntKind.wrap
    simp only [e2, e1, Bool.false_and]
    exact Int.emod_nonneg _ (by decide)
  rw [opc, Int.tmod_eq_emod_of_nonneg h1]
  exact ⟨Int.emod_nonneg _ (by decide), Int.emod_lt_of_pos _ (by decide)⟩
theorem stays_op {a b c : Prop} (h : ¬ a ∨ ¬ b) : ¬ (a ∧ b) := fun ⟨h1, h2⟩ => h.elim (fun f => f h1) (fun f => f h2)

theorem en10 : Enters Try.prog 10 := enters_of Try.func10 rfl (by kernel_rfl)
theorem en11 : Enters Try.prog 11 := enters_of Try.func11 rfl (by kernel_rfl)
theorem en13 : Enters Try.prog 13 := enters_of Try.func13 rfl (by kernel_rfl)
theorem en15 : Enters Try.prog 15 := enters_of Try.func15 rfl (by kernel_rfl)

set_option maxRecDepth 100000 in
set_option maxHeartbeats 4000000 in
theorem law_stays (room : Int) (a1 : Option Addr) (os : List DoC) (c1 : Nat) (ps : List DoP) (a2 : Option Addr) (om : List DoC) (c2 : Nat) (pm : List DoP) (name : ByteArray) (w : World) (hs1 : SlOf w a1 os) (hps : DosAt w os ps) (hl1 : os.length ≤ 4294967295) (hs2 : SlOf w a2 om) (hpm : DosAt w om pm) (hl2 : om.length ≤ 4294967295) (hn : name.size ≤ 4294967295) :
    Calls Try.prog 3 #[.int .i64 (room), .slice (a1) (os.length) (c1), .slice (a2) (om.length) (c2), .string (name)] w (Ret (fun v w' => v = .bool true ∧ Ext w w')) := by
  refine calls_run (n := 116) Try.func3 rfl rfl rfl ?_
  refine Run.seq ?_
  refine Run.region ?_
  refine RL.val (x_assignB rfl) ?_
  refine RL.nil ?_
  refine Run.seq ?_
  refine Run.region ?_
  refine RL.val (x_moveI rfl) ?_
  refine RL.val (x_moveSl rfl) ?_
  refine RL.st rfl <| St1.call (vals := [.int .i64 (room), .slice (a1) (os.length) (c1)]) en10 rfl (begun_ _ _ _ _ ps _ hs1 hps (by omega)) ?_
  rintro _ w_3 (⟨hnr, rfl, K_6⟩ | ⟨hrm, d_1, F_2, rfl, hD_4, hg_5, K_6⟩)
  · have K0 := (K_6 : Ext w _)
    refine RL.val (x_assignP rfl) ?_
    refine RL.nil ?_
    refine Run.seq ?_
    refine Run.seq ?_
    refine Run.region ?_
    refine RL.val (x_moveP rfl) ?_
    refine RL.val (litT (x_ptrNil Try.underlying23 rfl rfl) rfl) ?_
    refine RL.val (x_moveB rfl) ?_
    refine RL.guardF (wantedF0 rfl rfl rfl rfl) ?_
    refine RL.guardF (wantedF0 rfl rfl rfl rfl) ?_
    refine RL.val (x_or (b := true) (e := false) rfl rfl rfl) ?_
    refine RL.nil ?_
    refine Run.condT rfl ?_
    refine Run.seq ?_
    refine Run.region ?_
    refine RL.st rfl <| St1.call (vals := []) en11 rfl (awake_ _) ?_
    rintro _ w_7 ⟨rfl, K_8⟩
    replace K0 := K0.ext K_8
    refine RL.val (x_assignB rfl) ?_
    refine RL.nil ?_
    refine Run.ret1 (v := .bool (true)) Try.func3 rfl rfl ?_
    exact ⟨_, rfl, rfl, K0⟩
  · have pg_9 : ∀ q_, F_2 q_ → w.heap.size ≤ q_ := fun q_ h => Nat.le_trans (Nat.le_refl _) (hg_5 q_ h)
    clear hg_5
    have K0 := (K_6 : Ext w _)
    refine RL.val (x_assignP rfl) ?_
    refine RL.nil ?_
    refine Run.seq ?_
    refine Run.seq ?_
    refine Run.region ?_
    refine RL.val (x_moveP rfl) ?_
    refine RL.val (litF (x_ptrNil Try.underlying23 rfl rfl) rfl) ?_
    refine RL.val (x_moveB rfl) ?_
    refine RL.gst (wantedF1 rfl rfl rfl rfl) <| St1.call (vals := []) en11 rfl (awake_ _) ?_
    rintro _ w_10 ⟨rfl, K_11⟩
    replace hD_4 := hD_4.ext K_11
    replace K0 := K0.ext K_11
    refine RL.gst (wantedF1 rfl rfl rfl rfl) <| St1.val (x_not rfl) ?_
    refine RL.val (x_orF rfl rfl rfl) ?_
    refine RL.nil ?_
    refine Run.condF rfl ?_
    refine Run.skip ?_
    refine Run.seq ?_
    refine Run.region ?_
    refine RL.val (x_moveP rfl) ?_
    refine RL.val (x_moveS rfl) ?_
    refine RL.st rfl <| St1.call (vals := [.pointer (some ⟨d_1, 0, none⟩), .string (name)]) en12 rfl (readD hD_4 name (by first | omega | decide)) ?_
    rintro _ w_14 ⟨a_12, c_13, rfl, ho_15, hg_16, K_17⟩
    have pr_18 : ∀ q_, own a_12 q_ → ¬ F_2 q_ := apartNew hg_16 hD_4.own_lt
    have pg_19 : ∀ q_, own a_12 q_ → w.heap.size ≤ q_ := fun q_ h => Nat.le_trans K0.size (hg_16 q_ h)
    clear hg_16
    replace hD_4 := hD_4.ext K_17
    replace K0 := K0.ext K_17
    refine RL.val (x_moveT rfl) ?_
    refine RL.val (x_extract rfl rfl) ?_
    refine RL.val (x_extract rfl rfl) ?_
    refine RL.val (x_assignSl rfl) ?_
    refine RL.val (x_assignI rfl) ?_
    refine RL.nil ?_
    refine Run.seq ?_
    refine Run.region ?_
    refine RL.val (x_moveP rfl) ?_
    refine RL.val (x_moveS rfl) ?_
    refine RL.st rfl <| St1.call (vals := [.pointer (some ⟨d_1, 0, none⟩), .string (name)]) en13 rfl (sizeD hD_4 name (by first | omega | decide)) ?_
    rintro _ w_20 ⟨rfl, K_21⟩
    replace hD_4 := hD_4.ext K_21
    replace ho_15 := ho_15.ext K_21
    replace K0 := K0.ext K_21
    refine RL.val (x_moveT rfl) ?_
    refine RL.val (x_extract rfl rfl) ?_
    refine RL.val (x_extract rfl rfl) ?_
    refine RL.val (x_extract rfl rfl) ?_
    refine RL.val (x_assignI rfl) ?_
    refine RL.val (x_assignI rfl) ?_
    refine RL.val (x_assignI rfl) ?_
    refine RL.nil ?_
    refine Run.seq ?_
    refine Run.seq ?_
    refine Run.region ?_
    refine RL.val (x_moveI rfl) ?_
    refine RL.val (x_neI rfl rfl) ?_
    refine RL.nil ?_
    refine Run.cond rfl (fun hc44 => ?_) (fun hc44 => ?_)
    · try simp only [br] at hc44
      refine Run.seq ?_
      refine Run.region ?_
      refine RL.val (x_assignB rfl) ?_
      refine RL.nil ?_
      refine Run.ret1 (v := .bool (true)) Try.func3 rfl rfl ?_
      exact ⟨_, rfl, rfl, K0⟩
    · try simp only [br] at hc44
      have hok0' := (hD_4).ok
      have hsy0 := sync_le hok0' name
      have hbl0 : ((readB (begunL room ps) name).take (syncB (begunL room ps) name)).length = syncB (begunL room ps) name := by rw [List.length_take]; omega
      have hcap0 := ho_15.le_cap
      refine Run.skip ?_
      refine Run.seq ?_
      refine Run.seq ?_
      refine Run.region ?_
      refine RL.val (x_moveI rfl) ?_
      refine RL.val (x_ltI rfl rfl) ?_
      refine RL.val (x_moveB rfl) ?_
      refine RL.gval (wantedF rfl rfl rfl rfl) (fun hg => (x_moveI rfl)) ?_
      refine RL.gval (wantedF rfl rfl rfl rfl) (fun hg => (x_moveSl rfl)) ?_
      refine RL.gval (wantedF rfl rfl rfl rfl) (fun hg => (x_lenSl Try.underlying26 (gvr hg))) ?_
      refine RL.gval (wantedF rfl rfl rfl rfl) (fun hg => (x_gtI (gvr hg) (gvr hg))) ?_
      refine RL.val (x_or rfl rfl rfl) ?_
      refine RL.nil ?_
      refine Run.cond rfl (fun hc52 => ?_) (fun hc52 => ?_)
      · try simp only [br] at hc52
        have hsy := sync_le (hD_4).ok name
        exfalso; omega
      · try simp only [br] at hc52
        refine Run.skip ?_
        refine Run.seq ?_
        refine Run.seq ?_
        have hst := Stays.begin (hD_4).ok (show lookE (begunL room ps) name = 0 from hc44)
        refine Run.region ?_
        refine RL.val (x_moveSl rfl) ?_
        refine RL.val (x_lenSl Try.underlying22 rfl) ?_
        refine RL.val (x_moveI rfl) ?_
        refine RL.nil ?_
        refine Run.block ?_
        refine Run.loop (ι := Nat) (fun i ρ' w' => ∃ F1 : Nat → Prop, Holds ρ' [(3, .string (name)), (9, .pointer (some ⟨d_1, 0, none⟩)), (10, .slice (a_12) ((readB (begunL room ps) name).length) (c_13)), (13, .int .i64 (((syncB (begunL room ps) name : Nat) : Int))), (53, .slice (a2) (om.length) (c2)), (54, .int .i64 (((om.length : Nat) : Int))), (55, .int .i64 (((i : Nat) : Int)))] ∧ Ext w w' ∧ (OwnSl w' 5 (a_12) (c_13) (readB (begunL room ps) name)) ∧ (DiskAt w' d_1 F1 room (runL room (begunL room ps) (pm.take i))) ∧ (∀ q_, F1 q_ → ¬ own a_12 q_) ∧ (∀ q_, F1 q_ → w.heap.size ≤ q_) ∧ (i ≤ om.length) ∧ (Stays name ((readB (begunL room ps) name).take (syncB (begunL room ps) name)) (runL room (begunL room ps) (pm.take i)))) (fun i => om.length - i) 0 ?_ ?_
        · refine ⟨_, ⟨rfl, rfl, rfl, rfl, rfl, rfl, rfl, trivial⟩, K0, ho_15, hD_4, (fun q_ h1 h2 => pr_18 q_ h2 h1), pg_9, ?_, ?_⟩
          · omega
          · exact hst
        clear hD_4 ho_15
        clear K0
        rintro i ρ_27 w_22 ⟨F1, hH_23, K0, ho_15, hO_24, pr_25, pr_26, hi, hst⟩ ih1
        obtain ⟨ρ₀, rfl⟩ := hH_23.ex
        clear hH_23
        refine Run.seq ?_
        refine Run.region ?_
        refine RL.val (x_ltI rfl rfl) ?_
        refine RL.nil ?_
        refine Run.seq ?_
        refine Run.cond rfl (fun hc56 => ?_) (fun hc56 => ?_)
        · try simp only [br] at hc56
          refine Run.skip ?_
          refine Run.seq ?_
          refine Run.block ?_
          refine Run.seq ?_
          refine Run.region ?_
          refine RL.val (x_moveI rfl) ?_
          obtain ⟨b_28, o_29, o, hx, ha_30, hc_31⟩ := hs2.el (i := i) (by first | omega | (simp only [List.length_set]; omega))
          have hc_31_lt := hc_31.lt
          replace hc_31 := hc_31.ext K0
          refine RL.val (x_idxN Try.underlying22 ty34 rfl rfl ha_30 (by first | omega | (simp only [List.length_set]; omega))) ?_
          refine RL.val (x_ldV (v := .agg #[.int .i64 ((o).op), .string ((o).name), .string ((o).other), .slice ((o).bytes.a) ((o).bytes.len) ((o).bytes.cap), .slice ((o).tears.a) ((o).tears.len) ((o).tears.cap)]) (y := o) ty34 rfl hc_31 rfl) ?_
          refine RL.st rfl <| St1.alloc ty34 ?_
          intro b_34 w_35 hl_38 hb_37 K_36
          replace hb_37 : Blk w_35 b_34 [.int .i64 (0), .string (⟨#[]⟩), .string (⟨#[]⟩), .slice (none) (0) (0), .slice (none) (0) (0)] 34 := hb_37
          have ne_39 : b_28 < b_34 := Nat.lt_of_lt_of_le hc_31.lt hl_38
          have pr_40 : ¬ own a_12 b_34 := fun h => absurd (ho_15.own_lt _ h) (by omega)
          have pr_41 : ¬ F1 b_34 := fun h => absurd (hO_24.own_lt _ h) (by omega)
          have : w.heap.size ≤ b_34 := Nat.le_trans K0.size hl_38
          clear hl_38
          replace ho_15 := ho_15.ext K_36
          replace hO_24 := hO_24.ext K_36
          replace hc_31 := hc_31.ext K_36
          replace K0 := K0.ext K_36
          refine RL.val (x_assignI rfl) ?_
          refine RL.st rfl <| St1.store (v := .agg #[.int .i64 ((o).op), .string ((o).name), .string ((o).other), .slice ((o).bytes.a) ((o).bytes.len) ((o).bytes.cap), .slice ((o).tears.a) ((o).tears.len) ((o).tears.cap)]) ty34 rfl rfl rfl (by simp [Value.cells, Value.oneCell']) hb_37 (by simp) ?_
          intro w_42 hb_37_ K_43
          have hb_37' : Blk w_42 b_34 [.int .i64 ((o).op), .string ((o).name), .string ((o).other), .slice ((o).bytes.a) ((o).bytes.len) ((o).bytes.cap), .slice ((o).tears.a) ((o).tears.len) ((o).tears.cap)] 34 := hb_37_
          clear hb_37_
          replace ho_15 := ho_15.keepO K_43 (fun q_ hq_ eq_ => pr_40 (by simp only [one] at eq_; rw [← eq_]; exact hq_))
          replace hO_24 := hO_24.keepO K_43 (fun q_ hq_ eq_ => pr_41 (by simp only [one] at eq_; rw [← eq_]; exact hq_))
          replace hc_31 := hc_31.keep K_43 (by simp only [one]; omega)
          replace K0 := K0.new K_43 (fun x hx => by simp only [one] at hx; omega)
          replace hb_37 := hb_37'
          clear hb_37'
          refine RL.nil ?_
          obtain ⟨p, hp⟩ : ∃ p_, pm[i]? = some p_ := ⟨_, List.getElem?_eq_getElem (by rw [← hpm.len]; omega)⟩
          obtain ⟨b, pts, hpe, hdo⟩ := hpm.all i o p hx hp
          refine Run.seq ?_
          refine Run.region ?_
          refine RL.val (x_fld (o' := 0) Try.underlying34 rfl ty3 rfl rfl rfl) ?_
          refine RL.val (x_ld (v := .int .i64 ((o).op)) ty3 rfl rfl (hb_37.cl.field (i := 0) rfl)) ?_
          refine RL.val (x_convI rfl ⟨_, Try.underlying3⟩ Try.underlying35) ?_
          refine RL.val (litI (c := opc o.op) (x_rem rfl rfl (by decide)) rfl) ?_
          refine RL.val (x_assignI rfl) ?_
          refine RL.nil ?_
          refine Run.seq ?_
          refine Run.seq ?_
          refine Run.region ?_
          refine RL.val (x_moveI rfl) ?_
          refine RL.val (x_gtI rfl rfl) ?_
          refine RL.val (x_moveB rfl) ?_
          refine RL.gval (wantedF rfl rfl rfl rfl) (fun hg => (x_moveI rfl)) ?_
          refine RL.gval (wantedF rfl rfl rfl rfl) (fun hg => (x_eqI (gvr hg) rfl)) ?_
          refine RL.val (x_or rfl rfl rfl) ?_
          refine RL.val (x_moveB rfl) ?_
          refine RL.gval (wantedF rfl rfl rfl rfl) (fun hg => (x_moveI rfl)) ?_
          refine RL.gval (wantedF rfl rfl rfl rfl) (fun hg => (x_eqI (gvr hg) rfl)) ?_
          refine RL.gval (wantedF rfl rfl rfl rfl) (fun hg => (x_moveB (gvr hg))) ?_
          refine RL.gval (wantedGT rfl rfl rfl rfl) (fun hg => (x_fld (o' := 1) Try.underlying34 rfl ty9 rfl rfl rfl)) ?_
          refine RL.gval (wantedGT rfl rfl rfl rfl) (fun hg => (x_ld (v := .string ((o).name)) ty9 (gvr hg) rfl (hb_37.cl.field (i := 1) rfl))) ?_
          refine RL.gval (wantedGT rfl rfl rfl rfl) (fun hg => (x_moveS rfl)) ?_
          refine RL.gval (wantedGT rfl rfl rfl rfl) (fun hg => (x_eqS (gvr hg) (gvr hg))) ?_
          refine RL.gval (wantedF rfl rfl rfl rfl) (fun hg => (x_andG hg rfl rfl rfl)) ?_
          refine RL.val (x_or rfl rfl rfl) ?_
          refine RL.val (x_moveB rfl) ?_
          refine RL.gval (wantedF rfl rfl rfl rfl) (fun hg => (x_moveI rfl)) ?_
          refine RL.gval (wantedF rfl rfl rfl rfl) (fun hg => (x_eqI (gvr hg) rfl)) ?_
          refine RL.gval (wantedF rfl rfl rfl rfl) (fun hg => (x_moveB (gvr hg))) ?_
          refine RL.gval (wantedGT rfl rfl rfl rfl) (fun hg => (x_fld (o' := 1) Try.underlying34 rfl ty9 rfl rfl rfl)) ?_
          refine RL.gval (wantedGT rfl rfl rfl rfl) (fun hg => (x_ld (v := .string ((o).name)) ty9 (gvr hg) rfl (hb_37.cl.field (i := 1) rfl))) ?_
          refine RL.gval (wantedGT rfl rfl rfl rfl) (fun hg => (x_moveS rfl)) ?_
          refine RL.gval (wantedGT rfl rfl rfl rfl) (fun hg => (x_eqS (gvr hg) (gvr hg))) ?_
          refine RL.gval (wantedGT rfl rfl rfl rfl) (fun hg => (x_moveB (gvr hg))) ?_
          refine RL.gval (wantedGF rfl rfl rfl rfl) (fun hg => (x_fld (o' := 2) Try.underlying34 rfl ty9 rfl rfl rfl)) ?_
          refine RL.gval (wantedGF rfl rfl rfl rfl) (fun hg => (x_ld (v := .string ((o).other)) ty9 (gvr hg) rfl (hb_37.cl.field (i := 2) rfl))) ?_
          refine RL.gval (wantedGF rfl rfl rfl rfl) (fun hg => (x_moveS rfl)) ?_
          refine RL.gval (wantedGF rfl rfl rfl rfl) (fun hg => (x_eqS (gvr hg) (gvr hg))) ?_
          refine RL.gval (wantedGT rfl rfl rfl rfl) (fun hg => (x_orG hg rfl rfl rfl)) ?_
          refine RL.gval (wantedF rfl rfl rfl rfl) (fun hg => (x_andG hg rfl rfl rfl)) ?_
          refine RL.val (x_or rfl rfl rfl) ?_
          refine RL.nil ?_
          refine Run.cond rfl (fun hc95 => ?_) (fun hc95 => ?_)
          · try simp only [br] at hc95
            refine Run.exit rfl ?_
            refine Run.seq ?_
            refine Run.region ?_
            refine RL.val (x_assignB rfl) ?_
            refine RL.nil ?_
            refine Run.ret1 (v := .bool (true)) Try.func3 rfl rfl ?_
            exact ⟨_, rfl, rfl, K0⟩
          · try simp only [br] at hc95
            refine Run.skip ?_
            refine Run.seq ?_
            have hok0 := (hO_24).ok
            refine Run.region ?_
            refine RL.val (x_moveP rfl) ?_
            refine RL.val (x_lds (cs := #[.int .i64 ((o).op), .string ((o).name), .string ((o).other), .slice ((o).bytes.a) ((o).bytes.len) ((o).bytes.cap), .slice ((o).tears.a) ((o).tears.len) ((o).tears.cap)]) ty34 rfl rfl (hb_37.cl.drop 0 5)) ?_
            refine RL.st rfl <| St1.call (vals := [.pointer (some ⟨d_1, 0, none⟩), .agg #[.int .i64 ((o).op), .string ((o).name), .string ((o).other), .slice ((o).bytes.a) ((o).bytes.len) ((o).bytes.cap), .slice ((o).tears.a) ((o).tears.len) ((o).tears.cap)]]) en14 rfl (call_ _ _ _ (runL room (begunL room ps) (pm.take i)) _ _ _ _ hO_24 (hdo.ext K0)) ?_
            rintro _ w_45 ⟨rfl, F_44, hD_46, hm_47, K_48⟩
            rw [← hpe] at hD_46
            have pr_49 : ∀ q_, F_44 q_ → ¬ own a_12 q_ := hm_47.apart pr_25 ho_15.own_lt
            have pr_50 : ¬ F_44 b_34 := hm_47.not pr_41 hb_37.lt
            have pg_51 : ∀ q_, F_44 q_ → w.heap.size ≤ q_ := hm_47.ge pr_26 K0.size
            replace ho_15 := ho_15.keepO K_48 (fun q_ h1 h2 => pr_25 q_ h2 h1)
            replace hb_37 := hb_37.keep K_48 pr_41
            replace K0 := K0.new K_48 pr_26
            clear hm_47
            refine RL.nil ?_
            rw [← runL_snoc hp] at hD_46
            have hst' : Stays name ((readB (begunL room ps) name).take (syncB (begunL room ps) name)) (runL room (begunL room ps) (pm.take (i + 1))) := by
              rw [runL_snoc hp]
              have ho1 : p.op = o.op := by rw [hpe]
              have ho2 : p.name = o.name := by rw [hpe]
              have ho3 : p.other = o.other := by rw [hpe]
              refine hst.step hok0 (by rw [ho1]; exact hc95.1.1.2) (by rw [ho1, ho2]; intro ⟨q1, q2⟩; rcases hc95.1.2 with h | h; exact h q1; exact h q2) (by rw [ho1, ho2, ho3]; intro ⟨q1, q2⟩; rcases hc95.2 with h | h; exact h q1; exact q2.elim h.1 h.2) (opc_range _)
            refine Run.seq ?_
            refine Run.region ?_
            refine RL.val (x_moveP rfl) ?_
            refine RL.val (x_moveS rfl) ?_
            refine RL.st rfl <| St1.call (vals := [.pointer (some ⟨d_1, 0, none⟩), .string (name)]) en12 rfl (readD hD_46 name (by first | omega | decide)) ?_
            rintro _ w_54 ⟨a_52, c_53, rfl, ho_55, hg_56, K_57⟩
            have pr_58 : ∀ q_, own a_52 q_ → ¬ own a_12 q_ := apartNew hg_56 ho_15.own_lt
            have pr_59 : ¬ own a_52 b_34 := notNew hg_56 hb_37.lt
            have pr_60 : ∀ q_, own a_52 q_ → ¬ F_44 q_ := apartNew hg_56 hD_46.own_lt
            have pg_61 : ∀ q_, own a_52 q_ → w.heap.size ≤ q_ := fun q_ h => Nat.le_trans K0.size (hg_56 q_ h)
            clear hg_56
            replace ho_15 := ho_15.ext K_57
            replace hb_37 := hb_37.ext K_57
            replace hD_46 := hD_46.ext K_57
            replace K0 := K0.ext K_57
            refine RL.val (x_moveT rfl) ?_
            refine RL.val (x_extract rfl rfl) ?_
            refine RL.val (x_extract rfl rfl) ?_
            refine RL.val (x_assignSl rfl) ?_
            refine RL.val (x_assignI rfl) ?_
            refine RL.nil ?_
            refine Run.seq ?_
            refine Run.region ?_
            refine RL.val (x_moveI rfl) ?_
            refine RL.val (x_neI rfl rfl) ?_
            refine RL.val (x_moveB rfl) ?_
            refine RL.gval (wantedF rfl rfl rfl rfl) (fun hg => (x_moveSl rfl)) ?_
            refine RL.gval (wantedF rfl rfl rfl rfl) (fun hg => (x_moveSl rfl)) ?_
            refine RL.gval (wantedF rfl rfl rfl rfl) (fun hg => (x_moveI rfl)) ?_
            refine RL.gval (wantedF rfl rfl rfl rfl) (fun hg => (litSl (m' := ((readB (begunL room ps) name).take (syncB (begunL room ps) name)).length) (x_sliceTo Try.underlying26 ty5 (gvr hg) (gvr hg) (by omega)) (by rw [List.length_take]; omega))) ?_
            refine RL.gcall (vals := [.slice (a_52) ((readB (runL room (begunL room ps) (pm.take (i + 1))) name).length) (c_53), .slice (a_12) (((readB (begunL room ps) name).take (syncB (begunL room ps) name)).length) (c_13)]) (wantedF rfl rfl rfl rfl) en15 (fun hg => (mcons (gvr hg) (mcons (gvr hg) mnil))) (fun hg => (hasPrefix _ (readB (runL room (begunL room ps) (pm.take (i + 1))) name) _ _ ((readB (begunL room ps) name).take (syncB (begunL room ps) name)) _ _ ho_55.sl (ho_15.sl.take (syncB (begunL room ps) name)) ho_55.le_cap)) ?_
            intro w_62 K_63
            replace ho_15 := ho_15.ext K_63
            replace hb_37 := hb_37.ext K_63
            replace hD_46 := hD_46.ext K_63
            replace ho_55 := ho_55.ext K_63
            replace K0 := K0.ext K_63
            refine RL.gval (wantedF rfl rfl rfl rfl) (fun hg => (x_not (gvr hg))) ?_
            refine RL.val (x_or rfl rfl rfl) ?_
            refine RL.nil ?_
            refine Run.cond rfl (fun hc114 => ?_) (fun hc114 => ?_)
            · try simp only [br] at hc114
              have hrd := hst'.read
              rw [hbl0] at hrd
              exfalso
              rcases hc114 with h | h
              · exact h hrd.1
              · exact h (by rw [hbl0]; exact hrd.2)
            · try simp only [br] at hc114
              refine Run.skip ?_
              refine Run.inBlock ?_
              refine Run.region ?_
              refine RL.val (litI (c := ((i + 1 : Nat) : Int)) (x_add rfl rfl (by omega) (by omega)) rfl) ?_
              refine RL.val (x_moveI rfl) ?_
              refine RL.nil ?_
              refine ih1 (i + 1) _ _ ?_ (by omega)
              refine ⟨_, ⟨rfl, rfl, rfl, rfl, rfl, rfl, rfl, trivial⟩, K0, ho_15, hD_46, pr_49, pg_51, ?_, ?_⟩
              · omega
              · exact hst'
        · try simp only [br] at hc56
          refine Run.exit rfl ?_
          refine Run.seq ?_
          refine Run.region ?_
          refine RL.val (x_assignB rfl) ?_
          refine RL.nil ?_
          refine Run.ret1 (v := .bool (true)) Try.func3 rfl rfl ?_
          exact ⟨_, rfl, rfl, K0⟩

end Go.Proofs.Ytambibdkanpmaaa
