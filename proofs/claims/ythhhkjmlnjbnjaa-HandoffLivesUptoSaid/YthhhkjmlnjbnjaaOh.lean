/-
  Layer 18's laws: what they share.
-/
import Derived.Test.YthhhkjmlnjbnjaaRows
import Derived.Test.YthhhkjmlnjbnjaaOg
namespace Go.Proofs.Ythhhkjmlnjbnjaa
attribute [local irreducible] St1 RL RA RT RT1 Run

/-- keys that may be, rising, each once -/
def fineL (keys : List ByteArray) : List ByteArray := uniq (sortN ((keys.take 60).filter isKey))
def handedM (m : HMsg) : HMsg := ⟨11, m.to, m.frm, m.req, m.key, m.part⟩
theorem fq_yes {keys : List ByteArray} {i : Nat} {x : ByteArray} (hx : keys[i]? = some x) (h : i < 60) (hk : isKey x = true) : ((keys.take 60).take (i + 1)).filter isKey = ((keys.take 60).take i).filter isKey ++ [x] := by
  have : (keys.take 60)[i]? = some x := by rw [List.getElem?_take, if_pos h]; exact hx
  rw [take_snoc' this, List.filter_append]; simp [hk]
theorem fq_no {keys : List ByteArray} {i : Nat} {x : ByteArray} (hx : keys[i]? = some x) (h : ¬ (i < 60 ∧ isKey x = true)) : ((keys.take 60).take (i + 1)).filter isKey = ((keys.take 60).take i).filter isKey := by
  by_cases h6 : i < 60
  · have : (keys.take 60)[i]? = some x := by rw [List.getElem?_take, if_pos h6]; exact hx
    have hk : isKey x = false := by simpa using fun e => h ⟨h6, e⟩
    rw [take_snoc' this, List.filter_append]; simp [hk]
  · rw [List.take_take, List.take_take, Nat.min_eq_right (by omega), Nat.min_eq_right (by omega)]
theorem fq_end {keys : List ByteArray} {i : Nat} (h : keys.length ≤ i) : ((keys.take 60).take i).filter isKey = (keys.take 60).filter isKey := by rw [List.take_of_length_le (by rw [List.length_take]; omega)]
theorem fq_len {keys : List ByteArray} {i : Nat} : (((keys.take 60).take i).filter isKey).length ≤ 60 := Nat.le_trans (List.length_filter_le _ _) (Nat.le_trans (List.length_take_le' _ _) (List.length_take_le _ _))
theorem compactN {a : Option Addr} {xs : List ByteArray} {c n : Nat} {w : World} (ho : OwnSl w 9 a c xs) (hn : n = xs.length) (hl : xs.length ≤ 4294967295) : Calls Try.prog 40 #[.slice a n c] w (Ret fun v w' => v = .slice a (uniq xs).length c ∧ OwnSl w' 9 a c (uniq xs) ∧ Keeps (own a) w w') := by
  subst hn; exact compact_ a xs c w ho hl
theorem fine_len (keys : List ByteArray) : (fineL keys).length ≤ 60 := by
  have h1 := uniq_le (sortN ((keys.take 60).filter isKey))
  have h2 := sortN_mem (l := (keys.take 60).filter isKey)
  have h3 := h2.length_eq
  have h4 := List.length_filter_le isKey (keys.take 60)
  have h5 := List.length_take_le 60 keys
  unfold fineL
  omega
theorem fine_mem {keys : List ByteArray} {k : ByteArray} (h : k ∈ fineL keys) : isKey k = true := by
  have := sortN_mem.mem_iff.1 (uniq_mem h)
  exact (List.mem_filter.1 this).2
theorem fine_any (keys : List ByteArray) : (fineL keys).any (fun k => !isKey k) = false := List.any_eq_false.2 fun k hk => by simp [fine_mem hk]
theorem leB_lt {a b : List UInt8} (h : leB a b = true) (hn : a ≠ b) : a < b := by
  have h' : a ≤ b := by simpa [leB] using h
  exact (List.le_iff_lt_or_eq.1 h').resolve_right hn
/-- strictly rising -/
def Rising (l : List ByteArray) : Prop := l.Pairwise (fun x y => x.data.toList < y.data.toList)
theorem sort_rises (l : List ByteArray) : (sortN l).Pairwise (fun x y => leB x.data.toList y.data.toList = true) := by
  unfold sortN
  rw [List.pairwise_map]
  refine (List.pairwise_mergeSort (le := leB) ?_ ?_ _).imp fun h => by simpa using h
  · intro a b c h1 h2
    simp only [leB, decide_eq_true_eq] at *
    exact List.le_trans h1 h2
  · intro a b
    simp only [leB, Bool.or_eq_true, decide_eq_true_eq]
    exact List.le_total a b
theorem uniq_rises {l : List ByteArray} (h : l.Pairwise (fun x y => leB x.data.toList y.data.toList = true)) : Rising (uniq l) := by
  have key : ∀ (l s : List ByteArray), Rising s → (∀ x, s.getLast? = some x → ∀ y ∈ l, leB x.data.toList y.data.toList = true) → l.Pairwise (fun x y => leB x.data.toList y.data.toList = true) → Rising (l.foldl uqStep s) := by
    intro l
    induction l with
    | nil => intro s hs _ _; exact hs
    | cons y l ih =>
      intro s hs hl hp
      obtain ⟨hp1, hp2⟩ := List.pairwise_cons.1 hp
      rw [List.foldl_cons]
      unfold uqStep
      split
      · rename_i e
        exact ih s hs (fun x hx z hz => hl x hx z (List.mem_cons_of_mem _ hz)) hp2
      · rename_i e
        refine ih _ ?_ (fun x hx z hz => ?_) hp2
        · rw [Rising, List.pairwise_append]
          refine ⟨hs, List.pairwise_singleton _ _, fun a ha b hb => ?_⟩
          simp only [List.mem_singleton] at hb
          subst hb
          cases hg : s.getLast? with
          | none => rw [List.getLast?_eq_none_iff] at hg; subst hg; simp at ha
          | some z =>
            have hzb : z.data.toList < b.data.toList := leB_lt (hl z hg b (by simp)) (fun e2 => e (by rw [hg]; congr 1; exact ByteArray.ext (Array.toList_inj.1 e2)))
            obtain ⟨s', rfl⟩ := List.getLast?_eq_some_iff.1 hg
            rcases List.mem_append.1 ha with ha | ha
            · exact List.lt_trans ((List.pairwise_append.1 hs).2.2 a ha z (by simp)) hzb
            · simp only [List.mem_singleton] at ha; subst ha; exact hzb
        · simp only [List.getLast?_append, List.getLast?_singleton, Option.some_or, Option.some.injEq] at hx
          subst hx
          exact hp1 z hz
  exact key l [] List.Pairwise.nil (fun x hx => by simp at hx) h
theorem fine_rises (keys : List ByteArray) : Rising (fineL keys) := uniq_rises (sort_rises _)
theorem Rising.nodup {l : List ByteArray} (h : Rising l) : l.Nodup := h.imp fun h e => by subst e; exact List.lt_irrefl _ h
theorem sort_rising {l : List ByteArray} (h : Rising l) : sortN l = l := by
  have h1 : (l.map (fun s : ByteArray => s.data.toList)).mergeSort leB = l.map (fun s : ByteArray => s.data.toList) := by
    refine List.mergeSort_of_pairwise ?_
    rw [List.pairwise_map]
    exact h.imp fun h => by simp only [leB, decide_eq_true_eq]; exact List.le_of_lt h
  rw [sortN, h1, List.map_map]
  have : ((fun b => (⟨b.toArray⟩ : ByteArray)) ∘ fun (s : ByteArray) => s.data.toList) = id := funext fun s => data_back s
  rw [this, List.map_id]
theorem uniq_rising {l : List ByteArray} (h : Rising l) : uniq l = l := by
  have key : ∀ i, i ≤ l.length → uniq (l.take i) = l.take i := fun i hi => uniq_first hi fun j x y hj hx hy e => by
    subst e
    have h1 := (List.getElem?_eq_some_iff.1 hx)
    have h2 := (List.getElem?_eq_some_iff.1 hy)
    have := List.pairwise_iff_getElem.1 h j (j + 1) h2.1 h1.1 (by omega)
    rw [h2.2, h1.2] at this
    exact List.lt_irrefl _ this
  have := key l.length (Nat.le_refl _)
  rwa [List.take_length] at this
section
variable {w : World} {s : Nat} {F : Nat → Prop} {self now req : Int} {pl : List (PTr Item)}
theorem onD (h : SndAt w s F self now req pl) (m : HMsg) (tm : Int) (hL : pl.length ≤ 1000) (ht : tm ≤ 9223372036854775807) (hr : 0 ≤ req ∧ req ≤ 1000000) :
    Calls Try.prog 15 #[.pointer (some ⟨s, 0, none⟩), .agg #[.int .i64 ((m).kind), .int .i64 ((m).frm), .int .i64 ((m).to), .int .i64 ((m).req), .string ((m).key), .slice (none) (0) (0), .slice (none) (0) (0), .slice (none) (0) (0), .int .i64 (0), .int .i64 ((m).part), .int .i64 (0), .int .i64 (0), .int .i64 (0), .int .i64 (0), .slice (none) (0) (0), .slice (none) (0) (0), .slice (none) (0) (0)], .int .i64 tm] w (Ret (MStep s F w (onP self (max now tm) req pl m).T self (max now tm) (onP self (max now tm) req pl m).r (onP self (max now tm) req pl m).L)) := by
  obtain ⟨al, cl, ts, rfl, rfl, hD⟩ := h
  refine ret_mono (on_ s al cl self now req ts m tm w hD (by rwa [List.length_map] at hL) ht hr) fun v w' h => ?_
  obtain ⟨a', c', ts', rfl, h1, h2, h3, h4, h5, h6⟩ := h
  exact ⟨a', c', _, rfl, h1, h2, ⟨al, cl, ts', rfl, h4.symm, h3⟩, movedS_of (fun q h _ => h5 q h), fun q hq hf => absurd (hD.own_lt q (h5 q hf)) (by have := h2 q hq; omega), h6⟩
end

theorem en38 : Enters Try.prog 38 := enters_of Try.func38 rfl (by kernel_rfl)
theorem en39 : Enters Try.prog 39 := enters_of Try.func39 rfl (by kernel_rfl)

set_option maxRecDepth 100000 in
set_option maxHeartbeats 4000000 in
theorem fine_ (ak : Option Addr) (keys : List ByteArray) (ck : Nat) (w : World) (hka : SlOf w ak keys) (hkyl : keys.length ≤ 1048576) (hks : ∀ k ∈ keys, k.size ≤ 4294967295) :
    Calls Try.prog 9 #[.slice (ak) (keys.length) (ck)] w (Ret (fun v w' => ∃ a c, v = .slice a (fineL keys).length c ∧ OwnSl w' 9 a c (fineL keys) ∧ (∀ q, own a q → w.heap.size ≤ q) ∧ Ext w w')) := by
  refine calls_run (n := 28) Try.func9 rfl rfl rfl ?_
  refine Run.seq ?_
  refine Run.region ?_
  refine RL.val (x_assignSl rfl) ?_
  refine RL.nil ?_
  refine Run.seq ?_
  refine Run.region ?_
  refine RL.val (x_assignSl rfl) ?_
  refine RL.nil ?_
  refine Run.seq ?_
  refine Run.seq ?_
  refine Run.region ?_
  refine RL.val (x_moveSl rfl) ?_
  refine RL.val (x_lenSl Try.underlying22 rfl) ?_
  refine RL.val (x_moveI rfl) ?_
  refine RL.nil ?_
  refine Run.block ?_
  refine Run.loop (ι := Nat) (fun i ρ' w' => ∃ af : Option Addr, ∃ cf : Nat, Holds ρ' [(3, .slice (af) ((((keys.take 60).take i).filter isKey).length) (cf)), (6, .slice (ak) (keys.length) (ck)), (7, .int .i64 (((keys.length : Nat) : Int))), (8, .int .i64 (((i : Nat) : Int)))] ∧ Ext w w' ∧ (OwnSl w' 9 af cf (((keys.take 60).take i).filter isKey)) ∧ (∀ q_, own af q_ → w.heap.size ≤ q_) ∧ (i ≤ keys.length)) (fun i => keys.length - i) 0 ?_ ?_
  · rw [show List.filter isKey (List.take 0 (List.take 60 keys)) = [] from rfl]
    have ho_5 := OwnSl.nil (α := ByteArray) w 9
    refine ⟨_, _, ⟨rfl, rfl, rfl, rfl, trivial⟩, (Keeps.refl _ w), ho_5, (fun q_ h1 => absurd h1 (own_none q_)), ?_⟩
    · omega
  rintro i ρ_6 w_1 ⟨af, cf, hH_2, K0, ho_3, pr_4, hi⟩ ih1
  obtain ⟨ρ₀, rfl⟩ := hH_2.ex
  clear hH_2
  refine Run.seq ?_
  refine Run.region ?_
  refine RL.val (x_ltI rfl rfl) ?_
  refine RL.nil ?_
  refine Run.seq ?_
  refine Run.cond rfl (fun hc9 => ?_) (fun hc9 => ?_)
  · try simp only [br] at hc9
    refine Run.skip ?_
    refine Run.seq ?_
    refine Run.block ?_
    refine Run.seq ?_
    refine Run.region ?_
    refine RL.val (x_moveI rfl) ?_
    obtain ⟨b_7, o_8, x, hx, ha_9, hc_10⟩ := hka.el (i := i) (by first | omega | (simp only [List.length_set]; omega))
    have hc_10_lt := hc_10.lt
    replace hc_10 := hc_10.ext K0
    refine RL.val (x_idxN Try.underlying22 ty9 rfl rfl ha_9 (by first | omega | (simp only [List.length_set]; omega))) ?_
    refine RL.val (x_ldV (v := .string (x)) (y := x) ty9 rfl hc_10 rfl) ?_
    refine RL.val (x_assignI rfl) ?_
    refine RL.val (x_assignS rfl) ?_
    refine RL.nil ?_
    have hxs := hks x (mem_of_at hx)
    have hql := fq_len (keys := keys) (i := i)
    refine Run.seq ?_
    refine Run.region ?_
    refine RL.val (x_moveI rfl) ?_
    refine RL.val (x_ltI rfl rfl) ?_
    refine RL.val (x_moveB rfl) ?_
    refine RL.gval (wantedT rfl rfl rfl rfl) (fun hg => (x_moveS rfl)) ?_
    refine RL.gcall (vals := [.string (x)]) (wantedT rfl rfl rfl rfl) en38 (fun hg => (mcons (gvr hg) mnil)) (fun hg => (refIsKey _ _ (by omega))) ?_
    intro w_13 K_14
    replace ho_3 := ho_3.ext K_14
    replace K0 := K0.ext K_14
    refine RL.val (x_and rfl rfl rfl) ?_
    refine RL.nil ?_
    refine Run.cond rfl (fun hc18 => ?_) (fun hc18 => ?_)
    · try simp only [br] at hc18
      refine Run.region ?_
      refine RL.val (x_moveSl rfl) ?_
      refine RL.val (x_moveS rfl) ?_
      refine RL.st rfl <| St1.buildSlice ([x] : List ByteArray) Try.underlying22 ty9 rfl rfl (by first | decide | (simp [Enc.size])) ?_
      intro b_15 w_16 hl_19 ho_18 K_17
      have pr_20 : ∀ q_, own (some ⟨b_15, 0, none⟩) q_ → ¬ own af q_ := apartNew (ge_new hl_19) ho_3.own_lt
      have pg_21 : ∀ q_, own (some ⟨b_15, 0, none⟩) q_ → w.heap.size ≤ q_ := fun q_ h => Nat.le_trans K0.size ((ge_new hl_19) q_ h)
      clear hl_19
      replace ho_3 := ho_3.ext K_17
      replace K0 := K0.ext K_17
      refine RL.st rfl <| St1.append (xs := ((keys.take 60).take i).filter isKey) (ys := ([x] : List ByteArray)) Try.underlying22 ty9 rfl rfl rfl ho_3 ho_18.sl (by first | omega | (simp only [lr]; omega)) (by decide) ?_
      intro a_22 c_23 w_24 ho_25 K_26 hm_27 hrm_28
      have pr_29 : ∀ q_, own a_22 q_ → ¬ own (some ⟨b_15, 0, none⟩) q_ := hm_27.apart (fun q_ h1 h2 => pr_20 q_ h2 h1) ho_18.own_lt
      have pg_30 : ∀ q_, own a_22 q_ → w.heap.size ≤ q_ := hm_27.ge pr_4 K0.size
      replace ho_18 := ho_18.keepO K_26 pr_20
      replace K0 := K0.new K_26 pr_4
      clear hm_27
      clear hrm_28
      refine RL.val (x_assignSl rfl) ?_
      refine RL.nil ?_
      refine Run.inBlock ?_
      refine Run.region ?_
      refine RL.val (litI (c := ((i + 1 : Nat) : Int)) (x_add rfl rfl (by omega) (by omega)) rfl) ?_
      refine RL.val (x_moveI rfl) ?_
      refine RL.nil ?_
      have e := fq_yes hx (by omega) hc18.2
      refine ih1 (i + 1) _ _ ?_ (by omega)
      rw [e]
      refine ⟨_, _, ⟨rfl, rfl, rfl, rfl, trivial⟩, K0, ho_25, pg_30, ?_⟩
      · omega
    · try simp only [br] at hc18
      refine Run.skip ?_
      refine Run.inBlock ?_
      refine Run.region ?_
      refine RL.val (litI (c := ((i + 1 : Nat) : Int)) (x_add rfl rfl (by omega) (by omega)) rfl) ?_
      refine RL.val (x_moveI rfl) ?_
      refine RL.nil ?_
      have e := fq_no hx (fun h => by rcases hc18 with h2 | h2 <;> first | omega | (rw [h.2] at h2; cases h2) | exact h2 h.2)
      refine ih1 (i + 1) _ _ ?_ (by omega)
      rw [e]
      refine ⟨_, _, ⟨rfl, rfl, rfl, rfl, trivial⟩, K0, ho_3, pr_4, ?_⟩
      · omega
  · try simp only [br] at hc9
    refine Run.exit rfl ?_
    refine Run.seq ?_
    have hql := fq_len (keys := keys) (i := i)
    refine Run.region ?_
    refine RL.val (x_moveSl rfl) ?_
    refine RL.st rfl <| St1.call (vals := [.slice (af) ((((keys.take 60).take i).filter isKey).length) (cf)]) en39 rfl (sortM ho_3 (by omega)) ?_
    rintro _ w_31 ⟨rfl, ho_32, K_33⟩
    replace K0 := K0.new K_33 pr_4
    replace ho_3 := ho_32
    clear ho_32
    refine RL.nil ?_
    refine Run.seq ?_
    refine Run.region ?_
    refine RL.val (x_moveSl rfl) ?_
    refine RL.st rfl <| St1.call (vals := [.slice (af) ((((keys.take 60).take i).filter isKey).length) (cf)]) en40 rfl (compactN ho_3 sortN_mem.length_eq.symm (by rw [sortN_mem.length_eq]; omega)) ?_
    rintro _ w_34 ⟨rfl, ho_35, K_36⟩
    replace K0 := K0.new K_36 pr_4
    replace ho_3 := ho_35
    clear ho_35
    refine RL.val (x_assignSl rfl) ?_
    refine RL.nil ?_
    refine Run.ret1 (v := .slice (af) ((uniq (sortN (((keys.take 60).take i).filter isKey))).length) (cf)) Try.func9 rfl rfl ?_
    rw [fq_end (by omega)] at ho_3 ⊢
    exact ⟨_, rfl, af, cf, rfl, ho_3, pr_4, K0⟩

set_option maxRecDepth 100000 in
set_option maxHeartbeats 4000000 in
theorem handed_ (m : HMsg) (w : World) :
    Calls Try.prog 16 #[.agg #[.int .i64 ((m).kind), .int .i64 ((m).frm), .int .i64 ((m).to), .int .i64 ((m).req), .string ((m).key), .slice (none) (0) (0), .slice (none) (0) (0), .slice (none) (0) (0), .int .i64 (0), .int .i64 ((m).part), .int .i64 (0), .int .i64 (0), .int .i64 (0), .int .i64 (0), .slice (none) (0) (0), .slice (none) (0) (0), .slice (none) (0) (0)]] w (Ret (fun v w' => v = .agg #[.int .i64 (((handedM m)).kind), .int .i64 (((handedM m)).frm), .int .i64 (((handedM m)).to), .int .i64 (((handedM m)).req), .string (((handedM m)).key), .slice (none) (0) (0), .slice (none) (0) (0), .slice (none) (0) (0), .int .i64 (0), .int .i64 (((handedM m)).part), .int .i64 (0), .int .i64 (0), .int .i64 (0), .int .i64 (0), .slice (none) (0) (0), .slice (none) (0) (0), .slice (none) (0) (0)] ∧ Ext w w')) := by
  refine calls_run (n := 14) Try.func16 rfl rfl rfl ?_
  refine Run.seq ?_
  refine Run.region ?_
  refine RL.st rfl <| St1.box (v := .agg #[.int .i64 ((m).kind), .int .i64 ((m).frm), .int .i64 ((m).to), .int .i64 ((m).req), .string ((m).key), .slice (none) (0) (0), .slice (none) (0) (0), .slice (none) (0) (0), .int .i64 (0), .int .i64 ((m).part), .int .i64 (0), .int .i64 (0), .int .i64 (0), .int .i64 (0), .slice (none) (0) (0), .slice (none) (0) (0), .slice (none) (0) (0)]) rfl ?_
  intro b_1 w_2 hl_5 hb_4 K_3
  replace hb_4 : Blk w_2 b_1 [.int .i64 ((m).kind), .int .i64 ((m).frm), .int .i64 ((m).to), .int .i64 ((m).req), .string ((m).key), .slice (none) (0) (0), .slice (none) (0) (0), .slice (none) (0) (0), .int .i64 (0), .int .i64 ((m).part), .int .i64 (0), .int .i64 (0), .int .i64 (0), .int .i64 (0), .slice (none) (0) (0), .slice (none) (0) (0), .slice (none) (0) (0)] 46 := hb_4
  have : w.heap.size ≤ b_1 := hl_5
  clear hl_5
  have K0 := (K_3 : Ext w _)
  refine RL.st rfl <| St1.alloc ty46 ?_
  intro b_6 w_7 hl_10 hb_9 K_8
  replace hb_9 : Blk w_7 b_6 [.int .i64 (0), .int .i64 (0), .int .i64 (0), .int .i64 (0), .string (⟨#[]⟩), .slice (none) (0) (0), .slice (none) (0) (0), .slice (none) (0) (0), .int .i64 (0), .int .i64 (0), .int .i64 (0), .int .i64 (0), .int .i64 (0), .int .i64 (0), .slice (none) (0) (0), .slice (none) (0) (0), .slice (none) (0) (0)] 46 := hb_9
  have ne_11 : b_1 < b_6 := Nat.lt_of_lt_of_le hb_4.lt hl_10
  have : w.heap.size ≤ b_6 := Nat.le_trans K0.size hl_10
  clear hl_10
  replace hb_4 := hb_4.ext K_8
  replace K0 := K0.ext K_8
  refine RL.nil ?_
  refine Run.seq ?_
  refine Run.region ?_
  refine RL.val (x_fld (o' := 2) Try.underlying46 rfl ty3 rfl rfl rfl) ?_
  refine RL.val (x_ld (v := .int .i64 ((m).to)) ty3 rfl rfl (hb_4.cl.field (i := 2) rfl)) ?_
  refine RL.val (x_fld (o' := 1) Try.underlying46 rfl ty3 rfl rfl rfl) ?_
  refine RL.val (x_ld (v := .int .i64 ((m).frm)) ty3 rfl rfl (hb_4.cl.field (i := 1) rfl)) ?_
  refine RL.val (x_fld (o' := 4) Try.underlying46 rfl ty9 rfl rfl rfl) ?_
  refine RL.val (x_ld (v := .string ((m).key)) ty9 rfl rfl (hb_4.cl.field (i := 4) rfl)) ?_
  refine RL.val (x_fld (o' := 9) Try.underlying46 rfl ty3 rfl rfl rfl) ?_
  refine RL.val (x_ld (v := .int .i64 ((m).part)) ty3 rfl rfl (hb_4.cl.field (i := 9) rfl)) ?_
  refine RL.val (x_fld (o' := 3) Try.underlying46 rfl ty3 rfl rfl rfl) ?_
  refine RL.val (x_ld (v := .int .i64 ((m).req)) ty3 rfl rfl (hb_4.cl.field (i := 3) rfl)) ?_
  refine RL.val (x_build (cells := #[.int .i64 (11), .int .i64 ((m).to), .int .i64 ((m).frm), .int .i64 ((m).req), .string ((m).key), .slice (none) (0) (0), .slice (none) (0) (0), .slice (none) (0) (0), .int .i64 (0), .int .i64 ((m).part), .int .i64 (0), .int .i64 (0), .int .i64 (0), .int .i64 (0), .slice (none) (0) (0), .slice (none) (0) (0), .slice (none) (0) (0)]) (by kernel_rfl)) ?_
  refine RL.st rfl <| St1.store (v := .agg #[.int .i64 (11), .int .i64 ((m).to), .int .i64 ((m).frm), .int .i64 ((m).req), .string ((m).key), .slice (none) (0) (0), .slice (none) (0) (0), .slice (none) (0) (0), .int .i64 (0), .int .i64 ((m).part), .int .i64 (0), .int .i64 (0), .int .i64 (0), .int .i64 (0), .slice (none) (0) (0), .slice (none) (0) (0), .slice (none) (0) (0)]) ty46 rfl rfl rfl (by simp [Value.cells, Value.oneCell']) hb_9 (by simp) ?_
  intro w_12 hb_9_ K_13
  have hb_9' : Blk w_12 b_6 [.int .i64 (11), .int .i64 ((m).to), .int .i64 ((m).frm), .int .i64 ((m).req), .string ((m).key), .slice (none) (0) (0), .slice (none) (0) (0), .slice (none) (0) (0), .int .i64 (0), .int .i64 ((m).part), .int .i64 (0), .int .i64 (0), .int .i64 (0), .int .i64 (0), .slice (none) (0) (0), .slice (none) (0) (0), .slice (none) (0) (0)] 46 := hb_9_
  clear hb_9_
  replace hb_4 := hb_4.keep K_13 (by simp only [one]; omega)
  replace K0 := K0.new K_13 (fun x hx => by simp only [one] at hx; omega)
  replace hb_9 := hb_9'
  clear hb_9'
  refine RL.nil ?_
  refine Run.retC (cs := #[.int .i64 (11), .int .i64 ((m).to), .int .i64 ((m).frm), .int .i64 ((m).req), .string ((m).key), .slice (none) (0) (0), .slice (none) (0) (0), .slice (none) (0) (0), .int .i64 (0), .int .i64 ((m).part), .int .i64 (0), .int .i64 (0), .int .i64 (0), .int .i64 (0), .slice (none) (0) (0), .slice (none) (0) (0), .slice (none) (0) (0)]) Try.func16 rfl ty46 rfl rfl hb_9.cl ?_
  exact ⟨_, rfl, rfl, K0⟩

end Go.Proofs.Ythhhkjmlnjbnjaa
