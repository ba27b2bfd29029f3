/-
  Layer 2's walks, fourth part.
-/
import Derived.Test.YtlhepanmdchjoaaGreatDoorRows
import Derived.Test.YtlhepanmdchjoaaGreatDoorDd
namespace Go.Proofs.YtlhepanmdchjoaaGreatDoor
attribute [local irreducible] St1 RL RA RT RT1 Run

section
variable {w w' : World} {f x : FileS} {fs gs rs l1 l2 : List FileS} {d m : Nat} {room : Int} {n : ByteArray} {pl : List PF} {pts : List PTear} {ls ks : List LeftS}
/-- what a file is while a crash goes on: rs are to come -/
def crM (pts : List PTear) (rs : List FileS) (x : FileS) : PF := if rs.any (fun r => decide (r.name = x.name)) then x.p else crashF pts x.p
theorem crM_pos (h : x.name ∈ rs.map (·.name)) : crM pts rs x = x.p := by
  obtain ⟨y, hy, e⟩ := List.mem_map.1 h
  rw [crM, if_pos (List.any_eq_true.2 ⟨y, hy, by simpa using e⟩)]
theorem crM_neg (h : ¬ x.name ∈ rs.map (·.name)) : crM pts rs x = crashF pts x.p := by
  rw [crM, if_neg]
  intro hc
  obtain ⟨y, hy, e⟩ := List.any_eq_true.1 hc
  exact h (List.mem_map.2 ⟨y, hy, by simpa using e⟩)
theorem crashF_name (ts : List PTear) (f : PF) : (crashF ts f).name = f.name := by unfold crashF; split <;> rfl
theorem crM_name (x : FileS) : (crM pts rs x).name = x.name := by
  unfold crM; split
  · rfl
  · exact crashF_name _ _
theorem crM_zero : fs.map FileS.p = fs.map (crM pts fs) := List.map_congr_left fun x hx => by rw [crM_pos (List.mem_map.2 ⟨x, hx, rfl⟩)]
theorem crM_end : fs.map (crM pts []) = (fs.map FileS.p).map (crashF pts) := by rw [List.map_map]; exact List.map_congr_left fun x _ => by simp [crM]
theorem erase_names {j : Nat} (hn : (rs.map (·.name)).Nodup) (hf : rs[j]? = some f) (nm : ByteArray) : nm ∈ (rs.eraseIdx j).map (·.name) ↔ nm ∈ rs.map (·.name) ∧ nm ≠ f.name := by
  induction rs generalizing j with
  | nil => simp at hf
  | cons y l ih =>
    simp only [List.map_cons, List.nodup_cons] at hn
    cases j with
    | zero =>
      simp only [List.getElem?_cons_zero, Option.some.injEq] at hf; subst hf
      rw [List.eraseIdx_cons_zero]
      simp only [List.map_cons, List.mem_cons]
      exact ⟨fun h => ⟨.inr h, fun e => hn.1 (e ▸ h)⟩, fun ⟨h, hne⟩ => h.elim (fun e => absurd e hne) id⟩
    | succ j =>
      simp only [List.getElem?_cons_succ] at hf
      rw [List.eraseIdx_cons_succ]
      simp only [List.map_cons, List.mem_cons, ih hn.2 hf]
      have hy : y.name ≠ f.name := fun e => hn.1 (e ▸ List.mem_map.2 ⟨f, List.mem_of_getElem? hf, rfl⟩)
      constructor
      · rintro (e | ⟨h1, h2⟩)
        · subst e; exact ⟨.inl rfl, hy⟩
        · exact ⟨.inr h1, h2⟩
      · rintro ⟨h1 | h1, h2⟩
        · exact .inl h1
        · exact .inr ⟨h1, h2⟩
theorem erase_nodup {j : Nat} (hn : (rs.map (·.name)).Nodup) : ((rs.eraseIdx j).map (·.name)).Nodup := hn.sublist ((List.eraseIdx_sublist rs j).map _)
theorem erase_mem {j : Nat} (hn : (rs.map (·.name)).Nodup) (hf : rs[j]? = some f) {y : FileS} (hy : y ∈ rs.eraseIdx j) : y ∈ rs ∧ y.name ≠ f.name :=
  ⟨List.mem_of_mem_eraseIdx hy, ((erase_names hn hf y.name).1 (List.mem_map.2 ⟨y, hy, rfl⟩)).2⟩
theorem same_name (hn : (fs.map (·.name)).Nodup) (hx : x ∈ fs) (hf : f ∈ fs) (e : x.name = f.name) : x = f := by
  obtain ⟨i, hi, rfl⟩ := List.getElem_of_mem hx
  obtain ⟨j, hj, rfl⟩ := List.getElem_of_mem hf
  have := (List.getElem_inj (h₀ := by simpa using hi) (h₁ := by simpa using hj) hn).1 (show (fs.map (·.name))[i]'(by simpa using hi) = (fs.map (·.name))[j]'(by simpa using hj) by simpa using e)
  subst this; rfl
theorem crM_step {j : Nat} (hfn : (fs.map (·.name)).Nodup) (hgn : (gs.map (·.name)).Nodup) (hn : (rs.map (·.name)).Nodup) (hsub : ∀ f ∈ rs, f ∈ fs) (hf : rs[j]? = some f) (hg : gs = l1 ++ f :: l2) (h : gs.map FileS.p = fs.map (crM pts rs)) (f' : FileS) (hp : f'.p = crashF pts f.p) :
    (l1 ++ f' :: l2).map FileS.p = fs.map (crM pts (rs.eraseIdx j)) := by
  have h1 := upd_in (u := fun _ => f'.p) hgn hg rfl
  have h2 : (l1 ++ f' :: l2).map FileS.p = updL (gs.map FileS.p) f.name (fun _ => f'.p) := by rw [h1, List.map_append, List.map_cons]
  rw [h2, h, updL, List.map_map]
  have hfm := List.mem_of_getElem? hf
  refine List.map_congr_left fun x hx => ?_
  simp only [Function.comp, crM_name]
  by_cases c : x.name = f.name
  · have := same_name hfn hx (hsub f hfm) c; subst this
    rw [if_pos rfl, crM_neg (fun h => ((erase_names hn hf _).1 h).2 rfl), hp]
  · rw [if_neg c]
    by_cases c2 : x.name ∈ rs.map (·.name)
    · rw [crM_pos c2, crM_pos ((erase_names hn hf _).2 ⟨c2, c⟩)]
    · rw [crM_neg c2, crM_neg (fun h => c2 ((erase_names hn hf _).1 h).1)]
theorem left_names (hle : ls.map LeftS.p = tornL pl pts) : ls.map (·.name) = pts.map (·.name) := by
  have := congrArg (List.map (·.1)) hle
  rw [tornL, List.map_map, List.map_map] at this
  exact this
theorem crash_no (hle : ls.map LeftS.p = tornL pl pts) (h : ∀ x ∈ ls, x.name ≠ f.name) : (⟨f.name, f.bytes.take f.synced, (f.bytes.take f.synced).length⟩ : PF) = crashF pts f.p := by
  have hno : pts.find? (fun t => decide (t.name = f.p.name)) = none := by
    rw [List.find?_eq_none]
    intro t ht
    have : t.name ∈ ls.map (·.name) := by rw [left_names hle]; exact List.mem_map.2 ⟨t, ht, rfl⟩
    obtain ⟨x, hx, e⟩ := List.mem_map.1 this
    have := h x hx
    rw [e] at this
    show ¬ (decide (t.name = f.name) = true)
    simpa using this
  rw [crashF, hno]; rfl
theorem crash_in {x : LeftS} (hfn : (fs.map (·.name)).Nodup) (hln : (ls.map (·.name)).Nodup) (hle : ls.map LeftS.p = tornL (fs.map FileS.p) pts) (hf : f ∈ fs) (hx : x ∈ ls) (e : x.name = f.name) : (⟨f.name, x.bytes, x.bytes.length⟩ : PF) = crashF pts f.p := by
  obtain ⟨i, hi, rfl⟩ := List.getElem_of_mem hx
  have hl : ls.length = pts.length := by have := congrArg List.length hle; simpa [tornL] using this
  have h1 : LeftS.p ls[i] = tornP (fs.map FileS.p) (pts[i]'(by omega)) := by
    have := congrArg (fun l => l[i]?) hle
    simp only [tornL, List.getElem?_map, List.getElem?_eq_getElem hi, List.getElem?_eq_getElem (show i < pts.length by omega), Option.map_some, Option.some.injEq] at this
    exact this
  simp only [LeftS.p, tornP, Prod.mk.injEq] at h1
  obtain ⟨h2, h3⟩ := h1
  have hnp : (pts.map (·.name)).Nodup := by rw [← left_names hle]; exact hln
  have hfind : pts.find? (fun t => decide (t.name = f.p.name)) = some (pts[i]'(by omega)) := by
    have h4 : (pts[i]'(by omega)).name = f.p.name := by rw [← h2, e]; rfl
    rw [List.find?_eq_some_iff_getElem]
    refine ⟨by simpa using h4, i, by omega, rfl, fun j hj => ?_⟩
    simp only [Bool.not_eq_true', decide_eq_false_iff_not]
    intro h5
    have := (List.getElem_inj (h₀ := by simp; omega) (h₁ := by simp; omega) hnp).1 (show (pts.map (·.name))[j]'(by simp; omega) = (pts.map (·.name))[i]'(by simp; omega) by simp only [List.getElem_map]; rw [h5, h4])
    omega
  rw [crashF, hfind]
  have h6 : lookL (fs.map FileS.p) (pts[i]'(by omega)).name = some f.p := by rw [← h2, e]; obtain ⟨k1, k2, hk⟩ := List.append_of_mem hf; exact lookP_in hfn hk rfl
  rw [h6] at h3
  simp only at h3 ⊢
  rw [← h3]; rfl
theorem tornE_ok : ∀ {ts : List PTear} {s : List ByteArray}, tornE pl ts s = 0 → ∀ t ∈ ts, ∃ f, lookL pl t.name = some f ∧ tearOk f t = true
  | [], _, _, t, ht => by simp at ht
  | t0 :: l, s, h, t, ht => by
    rw [tornE] at h
    split at h
    · split at h
      · cases h
      · rename_i f hf
        split at h
        · cases h
        · rename_i hc
          rcases List.mem_cons.1 ht with rfl | ht
          · exact ⟨f, hf, by cases hk : tearOk f t with | true => rfl | false => exact absurd (.inr hk) hc⟩
          · exact tornE_ok h t ht
    · cases h
theorem usedL_map_le {u : PF → PF} {l : List PF} (h : ∀ f ∈ l, (u f).bytes.length ≤ f.bytes.length) : usedL (l.map u) ≤ usedL l := by
  induction l with
  | nil => exact Nat.le_refl _
  | cons y l ih =>
    have h1 := h y (by simp)
    have h2 := ih fun f hf => h f (List.mem_cons_of_mem _ hf)
    rw [usedL] at h2 ⊢
    rw [usedL] at h2 ⊢
    simp only [List.map_cons, List.sum_cons]
    omega
theorem PLOk.crash (h : PLOk room pl) : PLOk room (crashL pl pts) := by
  unfold crashL
  split
  · rename_i he
    have hb : ∀ f ∈ pl, (crashF pts f).bytes.length ≤ f.bytes.length ∧ (crashF pts f).synced = (crashF pts f).bytes.length := by
      intro f hf
      have hs := h.sync f hf
      unfold crashF
      split
      · rename_i t ht
        have ht2 : t.name = f.name := by have := List.find?_some ht; simpa using this
        obtain ⟨f0, h1, h2⟩ := tornE_ok he t (List.mem_of_find?_eq_some ht)
        rw [ht2, lookL_mem h.nodup hf] at h1
        cases h1
        simp only [tearOk, Bool.and_eq_true, decide_eq_true_eq] at h2
        refine ⟨?_, rfl⟩
        simp only [tornB, List.length_append, List.length_take]
        omega
      · exact ⟨by simp only [List.length_take]; omega, rfl⟩
    refine ⟨?_, ?_, ?_, ?_, ?_, h.room⟩
    · rw [List.map_map, show ((·.name) ∘ crashF pts) = (·.name) from funext fun f => crashF_name pts f]; exact h.nodup
    · intro f hf
      obtain ⟨g, hg, rfl⟩ := List.mem_map.1 hf
      rw [crashF_name]; exact h.may g hg
    · intro f hf
      obtain ⟨g, hg, rfl⟩ := List.mem_map.1 hf
      exact Nat.le_of_eq (hb g hg).2
    · have := usedL_map_le (u := crashF pts) (l := pl) (fun f hf => (hb f hf).1); have := h.used; omega
    · rw [List.length_map]; exact h.len
  · exact h
theorem crashL_ok (he : tornE pl pts [] = 0) : crashL pl pts = pl.map (crashF pts) := by rw [crashL, if_pos he]
theorem crashL_no (he : tornE pl pts [] ≠ 0) : crashL pl pts = pl := by rw [crashL, if_neg he]
theorem ents_names (h : ents gs = ents fs) : gs.map (·.name) = fs.map (·.name) := by rw [← ents_keys, ← ents_keys, h]
theorem left_keep {j : Nat} (hn : (rs.map (·.name)).Nodup) (hf : rs[j]? = some f) (h : ∀ x ∈ ls, x.name ∈ rs.map (·.name) → x ∈ ks) : ∀ x ∈ ls, x.name ∈ (rs.eraseIdx j).map (·.name) → x ∈ ks := fun x hx h2 => h x hx ((erase_names hn hf _).1 h2).1
theorem left_keep2 {j : Nat} {x : LeftS} {k1 k2 : List LeftS} (hn : (rs.map (·.name)).Nodup) (hf : rs[j]? = some f) (h : ∀ x ∈ ls, x.name ∈ rs.map (·.name) → x ∈ ks) (hk : ks = k1 ++ x :: k2) (e : x.name = f.name) : ∀ x ∈ ls, x.name ∈ (rs.eraseIdx j).map (·.name) → x ∈ k1 ++ k2 := fun y hy h2 => by
  obtain ⟨h3, h4⟩ := (erase_names hn hf _).1 h2
  have h5 := h y hy h3
  rw [hk] at h5
  simp only [List.mem_append, List.mem_cons] at h5 ⊢
  rcases h5 with h5 | rfl | h5
  · exact .inl h5
  · exact absurd e h4
  · exact .inr h5
theorem mem_keep {j : Nat} {f' : FileS} (hn : (rs.map (·.name)).Nodup) (hf : rs[j]? = some f) (h : ∀ f ∈ rs, f ∈ gs) (hg : gs = l1 ++ f :: l2) : ∀ x ∈ rs.eraseIdx j, x ∈ l1 ++ f' :: l2 := fun y hy => by
  obtain ⟨h1, h2⟩ := erase_mem hn hf hy
  have h5 := h y h1
  rw [hg] at h5
  simp only [List.mem_append, List.mem_cons] at h5 ⊢
  rcases h5 with h5 | rfl | h5
  · exact .inl h5
  · exact absurd rfl h2
  · exact .inr (.inr h5)
end

theorem en56 : Enters Tryz.prog 56 := enters_of Tryz.func56 rfl (by kernel_rfl)

set_option maxRecDepth 100000 in
set_option maxHeartbeats 4000000 in
theorem crash_ (d m : Nat) (room : Int) (fs : List FileS) (a : Option Addr) (ts : List TearC) (c : Nat) (pts : List PTear) (w : World) (hD : DiskO w d m room fs) (hs : SlOf w a ts) (ht : TearsAt w ts pts) (hl : ts.length ≤ 4294967295) :
    Calls Tryz.prog 21 #[.pointer (some ⟨d, 0, none⟩), .slice (a) (ts.length) (c)] w (Ret (fun v w' => ∃ fs', v = .int .i64 (tornE (fs.map FileS.p) pts []) ∧ DiskO w' d m room fs' ∧ fs'.map FileS.p = crashL (fs.map FileS.p) pts ∧ (∀ q, diskS d m fs' q → q < w.heap.size → diskS d m fs q) ∧ Keeps (diskS d m fs) w w')) := by
  obtain ⟨hB, hM, hF, hmd, hfd, hfm, hok⟩ := hD
  have hnd := DiskO.names hok
  have hlens := PLOk.lens hok
  have hroom := hok.room
  have hused := hok.used
  have hcnt := hok.len
  rw [List.length_map] at hcnt
  refine calls_run (n := 60) Tryz.func21 rfl rfl rfl ?_
  refine Run.seq ?_
  refine Run.region ?_
  refine RL.val (x_assignI rfl) ?_
  refine RL.nil ?_
  refine Run.seq ?_
  refine Run.seq ?_
  refine Run.region ?_
  refine RL.val (x_moveP rfl) ?_
  refine RL.st rfl <| St1.call (vals := [.pointer (some ⟨d, 0, none⟩)]) en46 rfl (made_ d m room fs _ (⟨hB, hM, hF, hmd, hfd, hfm, hok⟩ : DiskO _ d m room fs)) ?_
  rintro _ _ ⟨rfl, rfl⟩
  refine RL.val (x_not (b := true) rfl) ?_
  refine RL.nil ?_
  refine Run.condF rfl ?_
  refine Run.skip ?_
  refine Run.seq ?_
  refine Run.region ?_
  refine RL.val (x_moveP rfl) ?_
  refine RL.val (x_moveSl rfl) ?_
  refine RL.st rfl <| St1.call (vals := [.pointer (some ⟨d, 0, none⟩), .slice (a) (ts.length) (c)]) en56 rfl (torn_ d m room fs _ _ _ pts _ (⟨hB, hM, hF, hmd, hfd, hfm, hok⟩ : DiskO _ d m room fs) hs ht (by omega)) ?_
  rintro _ w_1 ⟨K_2, (⟨hne0, rfl⟩ | ⟨he0, lm, ls, rfl, hLM, hL, hle, hlnd, hpr1, hge1, hge2⟩)⟩
  · replace hB := hB.ext K_2
    replace hM := hM.ext K_2
    replace hF := hF.ext K_2
    have K0 := (K_2 : Ext w _).to (S := (diskS d m fs))
    refine RL.val (x_moveT rfl) ?_
    refine RL.val (x_extract rfl rfl) ?_
    refine RL.val (x_extract rfl rfl) ?_
    refine RL.val (x_assignM rfl) ?_
    refine RL.val (x_assignI rfl) ?_
    refine RL.nil ?_
    refine Run.seq ?_
    refine Run.seq ?_
    refine Run.region ?_
    refine RL.val (x_moveI rfl) ?_
    refine RL.val (x_neI rfl rfl) ?_
    refine RL.nil ?_
    refine Run.cond rfl (fun hc21 => ?_) (fun hc21 => ?_)
    · try simp only [br] at hc21
      refine Run.seq ?_
      refine Run.region ?_
      refine RL.val (x_moveI rfl) ?_
      refine RL.val (x_assignI rfl) ?_
      refine RL.nil ?_
      refine Run.ret1 (v := .int .i64 (tornE (fs.map FileS.p) pts [])) Tryz.func21 rfl rfl ?_
      exact ⟨_, rfl, fs, rfl, ⟨hB, hM, hF, hmd, hfd, hfm, hok⟩, by rw [crashL_no hne0], fun _ h _ => h, K0⟩
    · try simp only [br] at hc21
      exact absurd hc21 hne0
  · have pr_3 : ¬ one lm d := notNew (ge_one hge1) hB.lt
    have pr_4 : ∀ q_, one lm q_ → ¬ one m q_ := apartNew (ge_one hge1) hM.own_lt
    have pr_5 : ∀ q_, one lm q_ → ¬ filesS fs q_ := apartNew (ge_one hge1) hF.own_lt
    have pg_6 : ∀ q_, one lm q_ → q_ < w.heap.size → (diskS d m fs) q_ := fun q_ h hlt => absurd (Nat.le_trans (Nat.le_refl _) ((ge_one hge1) q_ h)) (by omega)
    have pw_7 : ∀ q_, one lm q_ → w.heap.size ≤ q_ := fun q_ h => Nat.le_trans (Nat.le_refl _) ((ge_one hge1) q_ h)
    have pr_8 : ¬ leftS ls d := notNew hge2 hB.lt
    have pr_9 : ∀ q_, leftS ls q_ → ¬ one m q_ := apartNew hge2 hM.own_lt
    have pr_10 : ∀ q_, leftS ls q_ → ¬ filesS fs q_ := apartNew hge2 hF.own_lt
    have pg_11 : ∀ q_, leftS ls q_ → q_ < w.heap.size → (diskS d m fs) q_ := fun q_ h hlt => absurd (Nat.le_trans (Nat.le_refl _) (hge2 q_ h)) (by omega)
    have pw_12 : ∀ q_, leftS ls q_ → w.heap.size ≤ q_ := fun q_ h => Nat.le_trans (Nat.le_refl _) (hge2 q_ h)
    replace hB := hB.ext K_2
    replace hM := hM.ext K_2
    replace hF := hF.ext K_2
    have K0 := (K_2 : Ext w _).to (S := (diskS d m fs))
    refine RL.val (x_moveT rfl) ?_
    refine RL.val (x_extract rfl rfl) ?_
    refine RL.val (x_extract rfl rfl) ?_
    refine RL.val (x_assignM rfl) ?_
    refine RL.val (x_assignI rfl) ?_
    refine RL.nil ?_
    refine Run.seq ?_
    refine Run.seq ?_
    refine Run.region ?_
    refine RL.val (x_moveI rfl) ?_
    refine RL.val (litF (x_neI rfl rfl) (by decide)) ?_
    refine RL.nil ?_
    refine Run.condF rfl ?_
    refine Run.skip ?_
    refine Run.seq ?_
    refine Run.seq ?_
    refine Run.region ?_
    refine RL.val (x_moveP rfl) ?_
    refine RL.val (x_nilCheck rfl) ?_
    refine RL.val (x_fld (o' := 0) Tryz.underlying51 rfl ty49 rfl rfl rfl) ?_
    refine RL.val (x_ld (v := .map (some m)) ty49 rfl rfl (hB.cl.field (i := 0) rfl)) ?_
    refine RL.st rfl <| St1.rangeMap Tryz.underlying49 rfl hM ?_
    intro r_13 w_14 hl_15 hI_16 K_17
    have pr_18 : ¬ one r_13 d := notNew (ge_one hl_15) hB.lt
    have pr_19 : ∀ q_, one r_13 q_ → ¬ one m q_ := apartNew (ge_one hl_15) hM.own_lt
    have pr_20 : ∀ q_, one r_13 q_ → ¬ filesS fs q_ := apartNew (ge_one hl_15) hF.own_lt
    have pr_21 : ∀ q_, one r_13 q_ → ¬ one lm q_ := apartNew (ge_one hl_15) hLM.own_lt
    have pr_22 : ∀ q_, one r_13 q_ → ¬ leftS ls q_ := apartNew (ge_one hl_15) hL.own_lt
    have pg_23 : ∀ q_, one r_13 q_ → q_ < w.heap.size → (diskS d m fs) q_ := fun q_ h hlt => absurd (Nat.le_trans K0.size ((ge_one hl_15) q_ h)) (by omega)
    have pw_24 : ∀ q_, one r_13 q_ → w.heap.size ≤ q_ := fun q_ h => Nat.le_trans K0.size ((ge_one hl_15) q_ h)
    clear hl_15
    replace hB := hB.ext K_17
    replace hM := hM.ext K_17
    replace hF := hF.ext K_17
    replace hLM := hLM.ext K_17
    replace hL := hL.ext K_17
    replace K0 := K0.ext K_17
    refine RL.nil ?_
    refine Run.block ?_
    refine Run.loop (ι := Nat) (fun k ρ' w' => ∃ rs : List FileS, ∃ gs : List FileS, ∃ ks : List LeftS, ∃ la : Option (ByteArray × Value), Holds ρ' [(5, .map (some lm)), (27, .pointer (some ⟨r_13, 0, none⟩))] ∧ Keeps (diskS d m fs) w w' ∧ (Blk w' d [.map (some m), .int .i64 (room)] 51) ∧ (MapAt w' m (ents fs)) ∧ (MapAt w' lm (lents ls)) ∧ (IterAt w' r_13 m (ents rs) la) ∧ (FilesAt w' gs) ∧ (LeftAt w' ks) ∧ (¬ one r_13 d) ∧ (∀ q_, one r_13 q_ → ¬ one m q_) ∧ (∀ q_, one r_13 q_ → ¬ one lm q_) ∧ (∀ q_, one r_13 q_ → ¬ filesS gs q_) ∧ (∀ q_, one r_13 q_ → ¬ leftS ks q_) ∧ (∀ q_, one r_13 q_ → q_ < w.heap.size → (diskS d m fs) q_) ∧ (¬ filesS gs d) ∧ (∀ q_, filesS gs q_ → ¬ one m q_) ∧ (∀ q_, filesS gs q_ → ¬ one lm q_) ∧ (∀ q_, filesS gs q_ → ¬ leftS ks q_) ∧ (∀ q_, filesS gs q_ → q_ < w.heap.size → (diskS d m fs) q_) ∧ (¬ leftS ks d) ∧ (∀ q_, leftS ks q_ → ¬ one m q_) ∧ (∀ q_, leftS ks q_ → ¬ one lm q_) ∧ (∀ q_, leftS ks q_ → q_ < w.heap.size → (diskS d m fs) q_) ∧ (k = rs.length) ∧ (ents gs = ents fs) ∧ (gs.map FileS.p = fs.map (crM pts rs)) ∧ (∀ f ∈ rs, f ∈ gs) ∧ (∀ x ∈ ls, x.name ∈ rs.map (·.name) → x ∈ ks) ∧ (∀ f ∈ rs, f ∈ fs) ∧ ((rs.map (·.name)).Nodup)) (fun k => k) fs.length ?_ ?_
    · refine ⟨fs, fs, ls, none, ⟨rfl, rfl, trivial⟩, K0, hB, hM, hLM, hI_16, hF, hL, pr_18, pr_19, pr_21, pr_20, pr_22, pg_23, hfd, hfm, (fun q_ h1 h2 => pr_5 q_ h2 h1), (fun q_ h1 h2 => pr_10 q_ h2 h1), (fun q_ h_ _ => Or.inr (Or.inr h_)), pr_8, pr_9, hpr1, pg_11, ?_, ?_, ?_, ?_, ?_, ?_, ?_⟩
      · rfl
      · rfl
      · exact crM_zero
      · exact fun f h => h
      · exact fun x h _ => h
      · exact fun f h => h
      · exact hnd
    clear hB hM hF hLM hL hI_16
    clear K0
    rintro k ρ_45 w_25 ⟨rs, gs, ks, la, hH_26, K0, hB, hM, hLM, hO_27, hO_28, hO_29, pr_30, pr_31, pr_32, pr_33, pr_34, pr_35, pr_36, pr_37, pr_38, pr_39, pr_40, pr_41, pr_42, pr_43, pr_44, hk, hge, hgp, hgm, hks, hsub, hrn⟩ ih1
    obtain ⟨ρ₀, rfl⟩ := hH_26.ex
    clear hH_26
    refine Run.seq ?_
    refine Run.region ?_
    refine RL.st rfl <| St1.nextMap rfl hO_27 ?_ ?_
    · intro h0_46
      replace h0_46 : rs = [] := by simpa [ents] using h0_46
      refine RL.val (x_extract rfl rfl) ?_
      refine RL.nil ?_
      refine Run.seq ?_
      refine Run.condF rfl ?_
      refine Run.exit rfl ?_
      refine Run.seq ?_
      have h0_ := h0_46
      refine Run.region ?_
      refine RL.val (x_assignI rfl) ?_
      refine RL.nil ?_
      refine Run.ret1 (v := .int .i64 (0)) Tryz.func21 rfl rfl ?_
      rw [h0_, crM_end] at hgp
      have heq : gs.map FileS.p = crashL (fs.map FileS.p) pts := by rw [crashL_ok he0]; exact hgp
      exact ⟨_, rfl, gs, by rw [he0], ⟨hB, by rw [hge]; exact hM, hO_28, hmd, pr_36, pr_37, by rw [heq]; exact hok.crash⟩, heq, disk_moved pr_40, K0⟩
    · intro jx ka_47 kv_48 w_49 h0_50 hI_51 K_52
      obtain ⟨f, hf, rfl, rfl⟩ := ents_get h0_50
      clear h0_50
      rw [ents_erase] at hI_51
      replace hB := hB.keep K_52 pr_30
      replace hM := hM.keepO K_52 (fun q_ h1 h2 => pr_31 q_ h2 h1)
      replace hLM := hLM.keepO K_52 (fun q_ h1 h2 => pr_32 q_ h2 h1)
      replace hO_28 := hO_28.keepO K_52 (fun q_ h1 h2 => pr_33 q_ h2 h1)
      replace hO_29 := hO_29.keepO K_52 (fun q_ h1 h2 => pr_34 q_ h2 h1)
      replace K0 := K0.trans K_52 (fun x hlt hx => pr_35 x hx hlt)
      replace hO_27 := hI_51
      clear hI_51
      refine RL.val (x_extract rfl rfl) ?_
      refine RL.nil ?_
      refine Run.seq ?_
      refine Run.condT rfl ?_
      refine Run.skip ?_
      refine Run.block ?_
      refine Run.seq ?_
      refine Run.region ?_
      refine RL.val (x_entry rfl hO_27) ?_
      refine RL.val (x_extract rfl rfl) ?_
      refine RL.val (x_extract rfl rfl) ?_
      refine RL.val (x_assignS rfl) ?_
      refine RL.val (x_assignP rfl) ?_
      refine RL.nil ?_
      refine Run.seq ?_
      by_cases h9 : ∃ x ∈ ls, x.name = f.name
      · have hfm_ : f ∈ fs := hsub f (List.mem_of_getElem? hf)
        have hfl := hlens f hfm_
        obtain ⟨l1, l2, hgs⟩ := List.append_of_mem (hgm f (List.mem_of_getElem? hf))
        obtain ⟨hfa, hR, hRf⟩ := hO_28.openE hgs
        obtain ⟨hb, ho, hoa⟩ := hfa
        have hcp := ho.le_cap
        have ne_53 : f.blk ≠ d := fun e_ => pr_36 (by rw [← e_]; exact (files_subB hgs))
        have pr_54 : ¬ one m f.blk := fun h_ => pr_37 _ (files_subB hgs) h_
        have pr_55 : ¬ one lm f.blk := fun h_ => pr_38 _ (files_subB hgs) h_
        have pr_56 : ¬ one r_13 f.blk := fun h_ => (fun q_ h1 h2 => pr_33 q_ h2 h1) _ (files_subB hgs) h_
        have pr_57 : ¬ leftS ks f.blk := fun h_ => pr_39 _ (files_subB hgs) h_
        have if_58 : f.blk < w.heap.size → (diskS d m fs) f.blk := fun hl_ => pr_40 _ (files_subB hgs) hl_
        have pr_59 : ¬ own f.a d := fun h_ => pr_36 ((files_subO hgs) _ h_)
        have pr_60 : ∀ q_, own f.a q_ → ¬ one m q_ := fun q_ h_ => pr_37 q_ ((files_subO hgs) q_ h_)
        have pr_61 : ∀ q_, own f.a q_ → ¬ one lm q_ := fun q_ h_ => pr_38 q_ ((files_subO hgs) q_ h_)
        have pr_62 : ∀ q_, own f.a q_ → ¬ one r_13 q_ := fun q_ h_ => (fun q_ h1 h2 => pr_33 q_ h2 h1) q_ ((files_subO hgs) q_ h_)
        have pr_63 : ∀ q_, own f.a q_ → ¬ leftS ks q_ := fun q_ h_ => pr_39 q_ ((files_subO hgs) q_ h_)
        have pr_64 : ¬ filesS (l1 ++ l2) d := fun h_ => pr_36 ((files_subR hgs) _ h_)
        have pr_65 : ∀ q_, filesS (l1 ++ l2) q_ → ¬ one m q_ := fun q_ h_ => pr_37 q_ ((files_subR hgs) q_ h_)
        have pr_66 : ∀ q_, filesS (l1 ++ l2) q_ → ¬ one lm q_ := fun q_ h_ => pr_38 q_ ((files_subR hgs) q_ h_)
        have pr_67 : ∀ q_, filesS (l1 ++ l2) q_ → ¬ one r_13 q_ := fun q_ h_ => (fun q_ h1 h2 => pr_33 q_ h2 h1) q_ ((files_subR hgs) q_ h_)
        have pr_68 : ∀ q_, filesS (l1 ++ l2) q_ → ¬ leftS ks q_ := fun q_ h_ => pr_39 q_ ((files_subR hgs) q_ h_)
        obtain ⟨x, hxl, hxn⟩ := h9
        obtain ⟨k1, k2, hkk⟩ := List.append_of_mem (hks x hxl (by rw [hxn]; exact List.mem_map.2 ⟨f, List.mem_of_getElem? hf, rfl⟩))
        obtain ⟨hx, hL2, hLx⟩ := hO_29.openE hkk
        have pr_69 : ¬ own x.a d := fun h_ => pr_41 ((left_subO hkk) _ h_)
        have pr_70 : ∀ q_, own x.a q_ → ¬ one m q_ := fun q_ h_ => pr_42 q_ ((left_subO hkk) q_ h_)
        have pr_71 : ∀ q_, own x.a q_ → ¬ one lm q_ := fun q_ h_ => pr_43 q_ ((left_subO hkk) q_ h_)
        have pr_72 : ∀ q_, own x.a q_ → ¬ one r_13 q_ := fun q_ h_ => (fun q_ h1 h2 => pr_34 q_ h2 h1) q_ ((left_subO hkk) q_ h_)
        have pr_73 : ¬ own x.a f.blk := fun h_ => pr_57 ((left_subO hkk) _ h_)
        have pr_74 : ∀ q_, own x.a q_ → ¬ own f.a q_ := fun q_ h_ => (fun q_ h1 h2 => pr_63 q_ h2 h1) q_ ((left_subO hkk) q_ h_)
        have pr_75 : ∀ q_, own x.a q_ → ¬ filesS (l1 ++ l2) q_ := fun q_ h_ => (fun q_ h1 h2 => pr_68 q_ h2 h1) q_ ((left_subO hkk) q_ h_)
        have pr_76 : ¬ leftS (k1 ++ k2) d := fun h_ => pr_41 ((left_subR hkk) _ h_)
        have pr_77 : ∀ q_, leftS (k1 ++ k2) q_ → ¬ one m q_ := fun q_ h_ => pr_42 q_ ((left_subR hkk) q_ h_)
        have pr_78 : ∀ q_, leftS (k1 ++ k2) q_ → ¬ one lm q_ := fun q_ h_ => pr_43 q_ ((left_subR hkk) q_ h_)
        have pr_79 : ∀ q_, leftS (k1 ++ k2) q_ → ¬ one r_13 q_ := fun q_ h_ => (fun q_ h1 h2 => pr_34 q_ h2 h1) q_ ((left_subR hkk) q_ h_)
        have pr_80 : ¬ leftS (k1 ++ k2) f.blk := fun h_ => pr_57 ((left_subR hkk) _ h_)
        have pr_81 : ∀ q_, leftS (k1 ++ k2) q_ → ¬ own f.a q_ := fun q_ h_ => (fun q_ h1 h2 => pr_63 q_ h2 h1) q_ ((left_subR hkk) q_ h_)
        have pr_82 : ∀ q_, leftS (k1 ++ k2) q_ → ¬ filesS (l1 ++ l2) q_ := fun q_ h_ => (fun q_ h1 h2 => pr_68 q_ h2 h1) q_ ((left_subR hkk) q_ h_)
        refine Run.region ?_
        refine RL.val (x_moveM rfl) ?_
        refine RL.val (x_moveS rfl) ?_
        refine RL.val (litV (v' := .tuple #[.slice (x.a) (x.bytes.length) (x.cap), .bool (true)]) (x_lookupOk Tryz.underlying60 Tryz.underlying9 rfl ty32 rfl rfl hLM) (by rw [lents_in hlnd hxl hxn]; rfl)) ?_
        refine RL.val (x_moveT rfl) ?_
        refine RL.val (x_extract rfl rfl) ?_
        refine RL.val (x_extract rfl rfl) ?_
        refine RL.val (x_assignSl rfl) ?_
        refine RL.val (x_assignB rfl) ?_
        refine RL.nil ?_
        refine Run.seq ?_
        refine Run.seq ?_
        refine Run.region ?_
        refine RL.val (x_moveB rfl) ?_
        refine RL.val (x_not (b := true) rfl) ?_
        refine RL.nil ?_
        refine Run.condF rfl ?_
        refine Run.skip ?_
        refine Run.region ?_
        refine RL.val (x_moveP rfl) ?_
        refine RL.val (x_moveP rfl) ?_
        refine RL.val (x_moveSl rfl) ?_
        refine RL.val (x_moveSl rfl) ?_
        refine RL.val (x_lenSl Tryz.underlying32 rfl) ?_
        refine RL.val (x_nilCheck rfl) ?_
        refine RL.val (x_fld (o' := 0) Tryz.underlying90 rfl ty32 rfl rfl rfl) ?_
        refine RL.st rfl <| St1.store (v := .slice (x.a) (x.bytes.length) (x.cap)) ty32 rfl rfl rfl (by simp [Value.cells, Value.oneCell']) hb (by simp) ?_
        intro w_83 hb_ K_84
        have hb' : Blk w_83 f.blk [.slice (x.a) (x.bytes.length) (x.cap), .int .i64 (((f.synced : Nat) : Int))] 90 := hb_
        clear hb_
        replace hB := hB.keep K_84 (by simp only [one]; omega)
        replace hM := hM.keepO K_84 (fun q_ hq_ eq_ => pr_54 (by simp only [one] at eq_; rw [← eq_]; exact hq_))
        replace hLM := hLM.keepO K_84 (fun q_ hq_ eq_ => pr_55 (by simp only [one] at eq_; rw [← eq_]; exact hq_))
        replace hO_27 := hO_27.keepO K_84 (fun q_ hq_ eq_ => pr_56 (by simp only [one] at eq_; rw [← eq_]; exact hq_)) (fun q_ hq_ eq_ => pr_54 (by simp only [one] at eq_; rw [← eq_]; exact hq_))
        replace ho := ho.keepO K_84 (fun q_ hq_ eq_ => hoa (by simp only [one] at eq_; rw [← eq_]; exact hq_))
        replace hR := hR.keepO K_84 (fun q_ hq_ eq_ => (fun h_ => hRf _ h_ (Or.inl rfl)) (by simp only [one] at eq_; rw [← eq_]; exact hq_))
        replace hx := hx.keepO K_84 (fun q_ hq_ eq_ => pr_73 (by simp only [one] at eq_; rw [← eq_]; exact hq_))
        replace hL2 := hL2.keepO K_84 (fun q_ hq_ eq_ => pr_80 (by simp only [one] at eq_; rw [← eq_]; exact hq_))
        replace K0 := K0.trans K_84 (fun x hlt hx => by simp only [one] at hx; subst hx; exact if_58 hlt)
        replace hb := hb'
        clear hb'
        refine RL.val (x_nilCheck rfl) ?_
        refine RL.val (x_fld (o' := 1) Tryz.underlying90 rfl ty3 rfl rfl rfl) ?_
        refine RL.st rfl <| St1.store (v := .int .i64 (((x.bytes.length : Nat) : Int))) ty3 rfl rfl rfl (by simp [Value.cells, Value.oneCell']) hb (by simp) ?_
        intro w_85 hb_ K_86
        have hb' : Blk w_85 f.blk [.slice (x.a) (x.bytes.length) (x.cap), .int .i64 (((x.bytes.length : Nat) : Int))] 90 := hb_
        clear hb_
        replace hB := hB.keep K_86 (by simp only [one]; omega)
        replace hM := hM.keepO K_86 (fun q_ hq_ eq_ => pr_54 (by simp only [one] at eq_; rw [← eq_]; exact hq_))
        replace hLM := hLM.keepO K_86 (fun q_ hq_ eq_ => pr_55 (by simp only [one] at eq_; rw [← eq_]; exact hq_))
        replace hO_27 := hO_27.keepO K_86 (fun q_ hq_ eq_ => pr_56 (by simp only [one] at eq_; rw [← eq_]; exact hq_)) (fun q_ hq_ eq_ => pr_54 (by simp only [one] at eq_; rw [← eq_]; exact hq_))
        replace ho := ho.keepO K_86 (fun q_ hq_ eq_ => hoa (by simp only [one] at eq_; rw [← eq_]; exact hq_))
        replace hR := hR.keepO K_86 (fun q_ hq_ eq_ => (fun h_ => hRf _ h_ (Or.inl rfl)) (by simp only [one] at eq_; rw [← eq_]; exact hq_))
        replace hx := hx.keepO K_86 (fun q_ hq_ eq_ => pr_73 (by simp only [one] at eq_; rw [← eq_]; exact hq_))
        replace hL2 := hL2.keepO K_86 (fun q_ hq_ eq_ => pr_80 (by simp only [one] at eq_; rw [← eq_]; exact hq_))
        replace K0 := K0.trans K_86 (fun x hlt hx => by simp only [one] at hx; subst hx; exact if_58 hlt)
        replace hb := hb'
        clear hb'
        refine RL.nil ?_
        refine Run.inBlock ?_
        have hF' : FilesAt w_85 (l1 ++ (⟨f.name, f.blk, x.a, x.cap, x.bytes, (x.bytes).length⟩ : FileS) :: l2) := FilesAt.close ⟨hb, hx, pr_73⟩ hR (fun q_ h1 h2 => h2.elim (fun e_ => (fun h_ => hRf _ h_ (Or.inl rfl)) (show filesS (l1 ++ l2) f.blk from (show q_ = f.blk from e_) ▸ h1)) (fun y_ => (fun q_ h1 h2 => pr_75 q_ h2 h1) q_ h1 y_))
        have pr_87 : ¬ filesS (l1 ++ (⟨f.name, f.blk, x.a, x.cap, x.bytes, (x.bytes).length⟩ : FileS) :: l2) d := fun x_ => (files_case' _ x_).elim (fun e_ => absurd e_ (by omega)) (fun y_ => y_.elim pr_69 (fun y_ => pr_64 y_))
        have pr_88 : ∀ q_, filesS (l1 ++ (⟨f.name, f.blk, x.a, x.cap, x.bytes, (x.bytes).length⟩ : FileS) :: l2) q_ → ¬ one m q_ := fun q_ x_ z_ => (files_case' _ x_).elim (fun e_ => pr_54 (show one m f.blk from e_ ▸ z_)) (fun y_ => y_.elim (fun y_ => pr_70 q_ y_ z_) (fun y_ => (fun y_ => pr_65 q_ y_ z_) y_))
        have pr_89 : ∀ q_, filesS (l1 ++ (⟨f.name, f.blk, x.a, x.cap, x.bytes, (x.bytes).length⟩ : FileS) :: l2) q_ → ¬ one lm q_ := fun q_ x_ z_ => (files_case' _ x_).elim (fun e_ => pr_55 (show one lm f.blk from e_ ▸ z_)) (fun y_ => y_.elim (fun y_ => pr_71 q_ y_ z_) (fun y_ => (fun y_ => pr_66 q_ y_ z_) y_))
        have pr_90 : ∀ q_, filesS (l1 ++ (⟨f.name, f.blk, x.a, x.cap, x.bytes, (x.bytes).length⟩ : FileS) :: l2) q_ → ¬ one r_13 q_ := fun q_ x_ z_ => (files_case' _ x_).elim (fun e_ => pr_56 (show one r_13 f.blk from e_ ▸ z_)) (fun y_ => y_.elim (fun y_ => pr_72 q_ y_ z_) (fun y_ => (fun y_ => pr_67 q_ y_ z_) y_))
        have pr_91 : ∀ q_, filesS (l1 ++ (⟨f.name, f.blk, x.a, x.cap, x.bytes, (x.bytes).length⟩ : FileS) :: l2) q_ → ¬ own f.a q_ := fun q_ x_ z_ => (files_case' _ x_).elim (fun e_ => hoa (show own f.a f.blk from e_ ▸ z_)) (fun y_ => y_.elim (fun y_ => pr_74 q_ y_ z_) (fun y_ => (fun y_ => (fun q_ h1 h2 => hRf q_ h1 (Or.inr h2)) q_ y_ z_) y_))
        have pr_92 : ∀ q_, filesS (l1 ++ (⟨f.name, f.blk, x.a, x.cap, x.bytes, (x.bytes).length⟩ : FileS) :: l2) q_ → ¬ leftS (k1 ++ k2) q_ := fun q_ x_ z_ => (files_case' _ x_).elim (fun e_ => pr_80 (show leftS (k1 ++ k2) f.blk from e_ ▸ z_)) (fun y_ => y_.elim (fun y_ => (fun q_ h1 h2 => hLx q_ h2 h1) q_ y_ z_) (fun y_ => (fun y_ => (fun q_ h1 h2 => pr_82 q_ h2 h1) q_ y_ z_) y_))
        have pg_93 : ∀ q_, filesS (l1 ++ (⟨f.name, f.blk, x.a, x.cap, x.bytes, (x.bytes).length⟩ : FileS) :: l2) q_ → q_ < w.heap.size → (diskS d m fs) q_ := fun q_ x_ hl_ => (files_case' _ x_).elim (fun e_ => e_ ▸ if_58 (e_ ▸ hl_)) (fun y_ => y_.elim (fun y_ => (fun q_ h_ hl_ => pr_44 q_ ((left_subO hkk) q_ h_) hl_) q_ y_ hl_) (fun y_ => (fun y_ => (fun q_ h_ hl_ => pr_40 q_ ((files_subR hgs) q_ h_) hl_) q_ y_ hl_) y_))
        have hents : ents (l1 ++ (⟨f.name, f.blk, x.a, x.cap, x.bytes, (x.bytes).length⟩ : FileS) :: l2) = ents fs := (ents_fs hgs _ _ _ _).symm.trans hge
        have hgp' := crM_step hnd (by rw [ents_names hge]; exact hnd) hrn hsub hf hgs hgp (⟨f.name, f.blk, x.a, x.cap, x.bytes, (x.bytes).length⟩ : FileS) (crash_in hnd hlnd hle hfm_ hxl hxn)
        have hgm' := mem_keep (f' := (⟨f.name, f.blk, x.a, x.cap, x.bytes, (x.bytes).length⟩ : FileS)) hrn hf hgm hgs
        have hks' := left_keep2 hrn hf hks hkk hxn
        refine ih1 ((rs.eraseIdx jx).length) _ _ ?_ (by rw [hk]; exact erase_lt hf)
        refine ⟨rs.eraseIdx jx, (l1 ++ (⟨f.name, f.blk, x.a, x.cap, x.bytes, (x.bytes).length⟩ : FileS) :: l2), (k1 ++ k2), _, ⟨rfl, rfl, trivial⟩, K0, hB, hM, hLM, hO_27, hF', hL2, pr_30, pr_31, pr_32, (fun q_ h1 h2 => pr_90 q_ h2 h1), (fun q_ h1 h2 => pr_79 q_ h2 h1), pr_35, pr_87, pr_88, pr_89, pr_92, pg_93, pr_76, pr_77, pr_78, (fun q_ h_ hl_ => pr_44 q_ ((left_subR hkk) q_ h_) hl_), ?_, ?_, ?_, ?_, ?_, ?_, ?_⟩
        · rfl
        · exact hents
        · exact hgp'
        · exact hgm'
        · exact hks'
        · exact fun f h => hsub f (List.mem_of_mem_eraseIdx h)
        · exact erase_nodup hrn
      · have hfm_ : f ∈ fs := hsub f (List.mem_of_getElem? hf)
        have hfl := hlens f hfm_
        obtain ⟨l1, l2, hgs⟩ := List.append_of_mem (hgm f (List.mem_of_getElem? hf))
        obtain ⟨hfa, hR, hRf⟩ := hO_28.openE hgs
        obtain ⟨hb, ho, hoa⟩ := hfa
        have hcp := ho.le_cap
        have ne_94 : f.blk ≠ d := fun e_ => pr_36 (by rw [← e_]; exact (files_subB hgs))
        have pr_95 : ¬ one m f.blk := fun h_ => pr_37 _ (files_subB hgs) h_
        have pr_96 : ¬ one lm f.blk := fun h_ => pr_38 _ (files_subB hgs) h_
        have pr_97 : ¬ one r_13 f.blk := fun h_ => (fun q_ h1 h2 => pr_33 q_ h2 h1) _ (files_subB hgs) h_
        have pr_98 : ¬ leftS ks f.blk := fun h_ => pr_39 _ (files_subB hgs) h_
        have if_99 : f.blk < w.heap.size → (diskS d m fs) f.blk := fun hl_ => pr_40 _ (files_subB hgs) hl_
        have pr_100 : ¬ own f.a d := fun h_ => pr_36 ((files_subO hgs) _ h_)
        have pr_101 : ∀ q_, own f.a q_ → ¬ one m q_ := fun q_ h_ => pr_37 q_ ((files_subO hgs) q_ h_)
        have pr_102 : ∀ q_, own f.a q_ → ¬ one lm q_ := fun q_ h_ => pr_38 q_ ((files_subO hgs) q_ h_)
        have pr_103 : ∀ q_, own f.a q_ → ¬ one r_13 q_ := fun q_ h_ => (fun q_ h1 h2 => pr_33 q_ h2 h1) q_ ((files_subO hgs) q_ h_)
        have pr_104 : ∀ q_, own f.a q_ → ¬ leftS ks q_ := fun q_ h_ => pr_39 q_ ((files_subO hgs) q_ h_)
        have pr_105 : ¬ filesS (l1 ++ l2) d := fun h_ => pr_36 ((files_subR hgs) _ h_)
        have pr_106 : ∀ q_, filesS (l1 ++ l2) q_ → ¬ one m q_ := fun q_ h_ => pr_37 q_ ((files_subR hgs) q_ h_)
        have pr_107 : ∀ q_, filesS (l1 ++ l2) q_ → ¬ one lm q_ := fun q_ h_ => pr_38 q_ ((files_subR hgs) q_ h_)
        have pr_108 : ∀ q_, filesS (l1 ++ l2) q_ → ¬ one r_13 q_ := fun q_ h_ => (fun q_ h1 h2 => pr_33 q_ h2 h1) q_ ((files_subR hgs) q_ h_)
        have pr_109 : ∀ q_, filesS (l1 ++ l2) q_ → ¬ leftS ks q_ := fun q_ h_ => pr_39 q_ ((files_subR hgs) q_ h_)
        have hxno : ∀ x ∈ ls, x.name ≠ f.name := fun x hx e => h9 ⟨x, hx, e⟩
        refine Run.region ?_
        refine RL.val (x_moveM rfl) ?_
        refine RL.val (x_moveS rfl) ?_
        refine RL.val (litV (v' := .tuple #[.slice (none) (0) (0), .bool (false)]) (x_lookupOk Tryz.underlying60 Tryz.underlying9 rfl ty32 rfl rfl hLM) (by rw [lents_no hxno]; rfl)) ?_
        refine RL.val (x_moveT rfl) ?_
        refine RL.val (x_extract rfl rfl) ?_
        refine RL.val (x_extract rfl rfl) ?_
        refine RL.val (x_assignSl rfl) ?_
        refine RL.val (x_assignB rfl) ?_
        refine RL.nil ?_
        refine Run.seq ?_
        refine Run.seq ?_
        refine Run.region ?_
        refine RL.val (x_moveB rfl) ?_
        refine RL.val (x_not (b := false) rfl) ?_
        refine RL.nil ?_
        refine Run.condT rfl ?_
        have htl := List.length_take (i := f.synced) (l := f.bytes)
        refine Run.drawT [] (m := 11) (by kernel_rfl) rfl ?_
        intro w_110 K_111
        replace hB := hB.ext K_111
        replace hM := hM.ext K_111
        replace hLM := hLM.ext K_111
        replace hO_27 := hO_27.ext K_111
        replace hO_29 := hO_29.ext K_111
        replace hb := hb.ext K_111
        replace ho := ho.ext K_111
        replace hR := hR.ext K_111
        replace K0 := K0.ext K_111
        refine ⟨fun w' => Blk w' f.blk [.slice (f.a) (f.bytes.length) (f.cap), .int .i64 (((f.synced : Nat) : Int))] 90 ∧ True, ?_⟩
        refine RT.takeP (v := .pointer (some ⟨f.blk, 0, none⟩)) 0 rfl (by kernel_rfl) (.inr ⟨hb, trivial⟩) (fun _ => (x_moveP rfl)) ?_
        refine RT.takeP (v := .pointer (some ⟨f.blk, 0, none⟩)) 1 rfl (by kernel_rfl) (.inr ⟨hb, trivial⟩) (fun _ => (x_nilCheck rfl)) ?_
        refine RT.takeP (v := .pointer (some ⟨f.blk, 0, none⟩)) 2 rfl (by kernel_rfl) (.inr ⟨hb, trivial⟩) (fun _ => (x_fld (o' := 0) Tryz.underlying90 rfl ty32 rfl rfl rfl)) ?_
        refine RT.take (v := .slice (f.a) (f.bytes.length) (f.cap)) 3 rfl (by kernel_rfl) ⟨hb, trivial⟩ (by rintro _ ⟨hb, -⟩; exact (x_ld (v := .slice (f.a) (f.bytes.length) (f.cap)) ty32 rfl rfl (hb.cl.field (i := 0) rfl))) ?_
        refine RT.takeP (v := .pointer (some ⟨f.blk, 0, none⟩)) 4 rfl (by kernel_rfl) (.inr ⟨hb, trivial⟩) (fun _ => (x_moveP rfl)) ?_
        refine RT.takeP (v := .pointer (some ⟨f.blk, 0, none⟩)) 5 rfl (by kernel_rfl) (.inr ⟨hb, trivial⟩) (fun _ => (x_nilCheck rfl)) ?_
        refine RT.takeP (v := .pointer (some ⟨f.blk, 1, none⟩)) 6 rfl (by kernel_rfl) (.inr ⟨hb, trivial⟩) (fun _ => (x_fld (o' := 1) Tryz.underlying90 rfl ty3 rfl rfl rfl)) ?_
        refine RT.take (v := .int .i64 (((f.synced : Nat) : Int))) 7 rfl (by kernel_rfl) ⟨hb, trivial⟩ (by rintro _ ⟨hb, -⟩; exact (x_ld (v := .int .i64 (((f.synced : Nat) : Int))) ty3 rfl rfl (hb.cl.field (i := 1) rfl))) ?_
        refine RT.takeP (v := .slice (f.a) ((f.bytes.take f.synced).length) (f.cap)) 8 rfl (by kernel_rfl) (.inr ⟨hb, trivial⟩) (fun _ => (litSl (m' := (f.bytes.take f.synced).length) (x_sliceTo Tryz.underlying32 ty5 rfl rfl (by omega)) (by rw [List.length_take]; omega))) ?_
        refine RT.st 9 rfl (by kernel_rfl) rfl <| St1.call (vals := [.slice (f.a) ((f.bytes.take f.synced).length) (f.cap)]) en15 rfl (clone_byte _ _ _ _ (ho.sl.take f.synced) (by omega)) ?_
        rintro _ w_114 ⟨a_112, c_113, rfl, ho_115, hg_116, K_117⟩
        have pr_118 : ¬ own a_112 d := notNew hg_116 hB.lt
        have pr_119 : ∀ q_, own a_112 q_ → ¬ one m q_ := apartNew hg_116 hM.own_lt
        have pr_120 : ∀ q_, own a_112 q_ → ¬ one lm q_ := apartNew hg_116 hLM.own_lt
        have pr_121 : ∀ q_, own a_112 q_ → ¬ one r_13 q_ := apartNew hg_116 hO_27.own_lt
        have pr_122 : ∀ q_, own a_112 q_ → ¬ leftS ks q_ := apartNew hg_116 hO_29.own_lt
        have pr_123 : ¬ own a_112 f.blk := notNew hg_116 hb.lt
        have pr_124 : ∀ q_, own a_112 q_ → ¬ own f.a q_ := apartNew hg_116 ho.own_lt
        have pr_125 : ∀ q_, own a_112 q_ → ¬ filesS (l1 ++ l2) q_ := apartNew hg_116 hR.own_lt
        have pg_126 : ∀ q_, own a_112 q_ → q_ < w.heap.size → (diskS d m fs) q_ := fun q_ h hlt => absurd (Nat.le_trans K0.size (hg_116 q_ h)) (by omega)
        have pw_127 : ∀ q_, own a_112 q_ → w.heap.size ≤ q_ := fun q_ h => Nat.le_trans K0.size (hg_116 q_ h)
        clear hg_116
        replace hB := hB.ext K_117
        replace hM := hM.ext K_117
        replace hLM := hLM.ext K_117
        replace hO_27 := hO_27.ext K_117
        replace hO_29 := hO_29.ext K_117
        replace hb := hb.ext K_117
        replace ho := ho.ext K_117
        replace hR := hR.ext K_117
        replace K0 := K0.ext K_117
        refine ⟨.inr ⟨hb, trivial⟩, ?_⟩
        refine RT.takeP (v := .slice (a_112) ((f.bytes.take f.synced).length) (c_113)) 10 rfl (by kernel_rfl) (.inr ⟨hb, trivial⟩) (fun _ => (x_assignSl rfl)) ?_
        refine RT.done (by kernel_rfl) ?_
        refine Run.region ?_
        refine RL.val (x_moveP rfl) ?_
        refine RL.val (x_moveP rfl) ?_
        refine RL.val (x_moveSl rfl) ?_
        refine RL.val (x_moveSl rfl) ?_
        refine RL.val (x_lenSl Tryz.underlying32 rfl) ?_
        refine RL.val (x_nilCheck rfl) ?_
        refine RL.val (x_fld (o' := 0) Tryz.underlying90 rfl ty32 rfl rfl rfl) ?_
        refine RL.st rfl <| St1.store (v := .slice (a_112) ((f.bytes.take f.synced).length) (c_113)) ty32 rfl rfl rfl (by simp [Value.cells, Value.oneCell']) hb (by simp) ?_
        intro w_128 hb_ K_129
        have hb' : Blk w_128 f.blk [.slice (a_112) ((f.bytes.take f.synced).length) (c_113), .int .i64 (((f.synced : Nat) : Int))] 90 := hb_
        clear hb_
        replace hB := hB.keep K_129 (by simp only [one]; omega)
        replace hM := hM.keepO K_129 (fun q_ hq_ eq_ => pr_95 (by simp only [one] at eq_; rw [← eq_]; exact hq_))
        replace hLM := hLM.keepO K_129 (fun q_ hq_ eq_ => pr_96 (by simp only [one] at eq_; rw [← eq_]; exact hq_))
        replace hO_27 := hO_27.keepO K_129 (fun q_ hq_ eq_ => pr_97 (by simp only [one] at eq_; rw [← eq_]; exact hq_)) (fun q_ hq_ eq_ => pr_95 (by simp only [one] at eq_; rw [← eq_]; exact hq_))
        replace hO_29 := hO_29.keepO K_129 (fun q_ hq_ eq_ => pr_98 (by simp only [one] at eq_; rw [← eq_]; exact hq_))
        replace ho := ho.keepO K_129 (fun q_ hq_ eq_ => hoa (by simp only [one] at eq_; rw [← eq_]; exact hq_))
        replace hR := hR.keepO K_129 (fun q_ hq_ eq_ => (fun h_ => hRf _ h_ (Or.inl rfl)) (by simp only [one] at eq_; rw [← eq_]; exact hq_))
        replace ho_115 := ho_115.keepO K_129 (fun q_ hq_ eq_ => pr_123 (by simp only [one] at eq_; rw [← eq_]; exact hq_))
        replace K0 := K0.trans K_129 (fun x hlt hx => by simp only [one] at hx; subst hx; exact if_99 hlt)
        replace hb := hb'
        clear hb'
        refine RL.val (x_nilCheck rfl) ?_
        refine RL.val (x_fld (o' := 1) Tryz.underlying90 rfl ty3 rfl rfl rfl) ?_
        refine RL.st rfl <| St1.store (v := .int .i64 ((((f.bytes.take f.synced).length : Nat) : Int))) ty3 rfl rfl rfl (by simp [Value.cells, Value.oneCell']) hb (by simp) ?_
        intro w_130 hb_ K_131
        have hb' : Blk w_130 f.blk [.slice (a_112) ((f.bytes.take f.synced).length) (c_113), .int .i64 ((((f.bytes.take f.synced).length : Nat) : Int))] 90 := hb_
        clear hb_
        replace hB := hB.keep K_131 (by simp only [one]; omega)
        replace hM := hM.keepO K_131 (fun q_ hq_ eq_ => pr_95 (by simp only [one] at eq_; rw [← eq_]; exact hq_))
        replace hLM := hLM.keepO K_131 (fun q_ hq_ eq_ => pr_96 (by simp only [one] at eq_; rw [← eq_]; exact hq_))
        replace hO_27 := hO_27.keepO K_131 (fun q_ hq_ eq_ => pr_97 (by simp only [one] at eq_; rw [← eq_]; exact hq_)) (fun q_ hq_ eq_ => pr_95 (by simp only [one] at eq_; rw [← eq_]; exact hq_))
        replace hO_29 := hO_29.keepO K_131 (fun q_ hq_ eq_ => pr_98 (by simp only [one] at eq_; rw [← eq_]; exact hq_))
        replace ho := ho.keepO K_131 (fun q_ hq_ eq_ => hoa (by simp only [one] at eq_; rw [← eq_]; exact hq_))
        replace hR := hR.keepO K_131 (fun q_ hq_ eq_ => (fun h_ => hRf _ h_ (Or.inl rfl)) (by simp only [one] at eq_; rw [← eq_]; exact hq_))
        replace ho_115 := ho_115.keepO K_131 (fun q_ hq_ eq_ => pr_123 (by simp only [one] at eq_; rw [← eq_]; exact hq_))
        replace K0 := K0.trans K_131 (fun x hlt hx => by simp only [one] at hx; subst hx; exact if_99 hlt)
        replace hb := hb'
        clear hb'
        refine RL.nil ?_
        refine Run.inBlock ?_
        have hF' : FilesAt w_130 (l1 ++ (⟨f.name, f.blk, a_112, c_113, f.bytes.take f.synced, (f.bytes.take f.synced).length⟩ : FileS) :: l2) := FilesAt.close ⟨hb, ho_115, pr_123⟩ hR (fun q_ h1 h2 => h2.elim (fun e_ => (fun h_ => hRf _ h_ (Or.inl rfl)) (show filesS (l1 ++ l2) f.blk from (show q_ = f.blk from e_) ▸ h1)) (fun y_ => (fun q_ h1 h2 => pr_125 q_ h2 h1) q_ h1 y_))
        have pr_132 : ¬ filesS (l1 ++ (⟨f.name, f.blk, a_112, c_113, f.bytes.take f.synced, (f.bytes.take f.synced).length⟩ : FileS) :: l2) d := fun x_ => (files_case' _ x_).elim (fun e_ => absurd e_ (by omega)) (fun y_ => y_.elim pr_118 (fun y_ => pr_105 y_))
        have pr_133 : ∀ q_, filesS (l1 ++ (⟨f.name, f.blk, a_112, c_113, f.bytes.take f.synced, (f.bytes.take f.synced).length⟩ : FileS) :: l2) q_ → ¬ one m q_ := fun q_ x_ z_ => (files_case' _ x_).elim (fun e_ => pr_95 (show one m f.blk from e_ ▸ z_)) (fun y_ => y_.elim (fun y_ => pr_119 q_ y_ z_) (fun y_ => (fun y_ => pr_106 q_ y_ z_) y_))
        have pr_134 : ∀ q_, filesS (l1 ++ (⟨f.name, f.blk, a_112, c_113, f.bytes.take f.synced, (f.bytes.take f.synced).length⟩ : FileS) :: l2) q_ → ¬ one lm q_ := fun q_ x_ z_ => (files_case' _ x_).elim (fun e_ => pr_96 (show one lm f.blk from e_ ▸ z_)) (fun y_ => y_.elim (fun y_ => pr_120 q_ y_ z_) (fun y_ => (fun y_ => pr_107 q_ y_ z_) y_))
        have pr_135 : ∀ q_, filesS (l1 ++ (⟨f.name, f.blk, a_112, c_113, f.bytes.take f.synced, (f.bytes.take f.synced).length⟩ : FileS) :: l2) q_ → ¬ one r_13 q_ := fun q_ x_ z_ => (files_case' _ x_).elim (fun e_ => pr_97 (show one r_13 f.blk from e_ ▸ z_)) (fun y_ => y_.elim (fun y_ => pr_121 q_ y_ z_) (fun y_ => (fun y_ => pr_108 q_ y_ z_) y_))
        have pr_136 : ∀ q_, filesS (l1 ++ (⟨f.name, f.blk, a_112, c_113, f.bytes.take f.synced, (f.bytes.take f.synced).length⟩ : FileS) :: l2) q_ → ¬ leftS ks q_ := fun q_ x_ z_ => (files_case' _ x_).elim (fun e_ => pr_98 (show leftS ks f.blk from e_ ▸ z_)) (fun y_ => y_.elim (fun y_ => pr_122 q_ y_ z_) (fun y_ => (fun y_ => pr_109 q_ y_ z_) y_))
        have pr_137 : ∀ q_, filesS (l1 ++ (⟨f.name, f.blk, a_112, c_113, f.bytes.take f.synced, (f.bytes.take f.synced).length⟩ : FileS) :: l2) q_ → ¬ own f.a q_ := fun q_ x_ z_ => (files_case' _ x_).elim (fun e_ => hoa (show own f.a f.blk from e_ ▸ z_)) (fun y_ => y_.elim (fun y_ => pr_124 q_ y_ z_) (fun y_ => (fun y_ => (fun q_ h1 h2 => hRf q_ h1 (Or.inr h2)) q_ y_ z_) y_))
        have pg_138 : ∀ q_, filesS (l1 ++ (⟨f.name, f.blk, a_112, c_113, f.bytes.take f.synced, (f.bytes.take f.synced).length⟩ : FileS) :: l2) q_ → q_ < w.heap.size → (diskS d m fs) q_ := fun q_ x_ hl_ => (files_case' _ x_).elim (fun e_ => e_ ▸ if_99 (e_ ▸ hl_)) (fun y_ => y_.elim (fun y_ => pg_126 q_ y_ hl_) (fun y_ => (fun y_ => (fun q_ h_ hl_ => pr_40 q_ ((files_subR hgs) q_ h_) hl_) q_ y_ hl_) y_))
        have hents : ents (l1 ++ (⟨f.name, f.blk, a_112, c_113, f.bytes.take f.synced, (f.bytes.take f.synced).length⟩ : FileS) :: l2) = ents fs := (ents_fs hgs _ _ _ _).symm.trans hge
        have hgp' := crM_step hnd (by rw [ents_names hge]; exact hnd) hrn hsub hf hgs hgp (⟨f.name, f.blk, a_112, c_113, f.bytes.take f.synced, (f.bytes.take f.synced).length⟩ : FileS) (crash_no hle hxno)
        have hgm' := mem_keep (f' := (⟨f.name, f.blk, a_112, c_113, f.bytes.take f.synced, (f.bytes.take f.synced).length⟩ : FileS)) hrn hf hgm hgs
        have hks' := left_keep hrn hf hks
        refine ih1 ((rs.eraseIdx jx).length) _ _ ?_ (by rw [hk]; exact erase_lt hf)
        refine ⟨rs.eraseIdx jx, (l1 ++ (⟨f.name, f.blk, a_112, c_113, f.bytes.take f.synced, (f.bytes.take f.synced).length⟩ : FileS) :: l2), ks, _, ⟨rfl, rfl, trivial⟩, K0, hB, hM, hLM, hO_27, hF', hO_29, pr_30, pr_31, pr_32, (fun q_ h1 h2 => pr_135 q_ h2 h1), pr_34, pr_35, pr_132, pr_133, pr_134, pr_136, pg_138, pr_41, pr_42, pr_43, pr_44, ?_, ?_, ?_, ?_, ?_, ?_, ?_⟩
        · rfl
        · exact hents
        · exact hgp'
        · exact hgm'
        · exact hks'
        · exact fun f h => hsub f (List.mem_of_mem_eraseIdx h)
        · exact erase_nodup hrn

end Go.Proofs.YtlhepanmdchjoaaGreatDoor
