/-
  The reference's disk, sixth part.
-/
import Derived.Test.YtambibdkanpmaaaRows
import Derived.Test.YtambibdkanpmaaaDr
namespace Go.Proofs.Ytambibdkanpmaaa
attribute [local irreducible] St1 RL RA RT RT1 Run

section
variable {w w' : World} {room : Int} {pl : List PF} {n : ByteArray} {rs out : List RF} {r : RF} {pts : List PTear}
theorem BytesAt.snoc (h : BytesAt w out) {a : Option Addr} {c : Nat} {bs : List UInt8} (ho : OwnSl w 5 a c bs) (n : ByteArray) (s : Nat) : BytesAt w (out ++ [⟨n, a, c, bs, s⟩]) := ⟨fun z hz => (List.mem_append.1 hz).elim (fun h' => h.all z h') (fun e => by simp only [List.mem_singleton] at e; rw [e]; exact ⟨ho.sl, ho.own_lt, ho.le_cap⟩)⟩
theorem bytesS_snoc {a : Option Addr} {c : Nat} {bs : List UInt8} {n : ByteArray} {s : Nat} : ∀ q, bytesS (out ++ [⟨n, a, c, bs, s⟩]) q → own a q ∨ bytesS out q := fun q ⟨z, hz, hq⟩ => (List.mem_append.1 hz).elim (fun h => .inr ⟨z, h, hq⟩) (fun e => .inl (by simp only [List.mem_singleton] at e; rw [e] at hq; exact hq))
theorem rp_snoc {a : Option Addr} {c i : Nat} (h : out.map RF.p = (rs.take i).map RF.p) (hr : rs[i]? = some r) : (out ++ [(⟨r.name, a, c, r.bytes, r.synced⟩ : RF)]).map RF.p = (rs.take (i + 1)).map RF.p := by rw [List.map_append, h, take_snoc hr, List.map_append]; rfl
theorem rc_snoc3 {l : List RF} {a : Option Addr} {c : Nat} {bs : List UInt8} {s : Nat} {n : ByteArray} : l.map RF.c ++ [(⟨n, ⟨a, bs.length, c⟩, ((s : Nat) : Int)⟩ : FileC)] = (l ++ [(⟨n, a, c, bs, s⟩ : RF)]).map RF.c := by rw [List.map_append]; rfl
theorem te_bad {i : Nat} {t : PTear} (h : tornE pl pts [] = tornE pl (pts.drop i) (seenL pts i)) (ht : pts[i]? = some t) (hm : mayN t.name = false) : tornE pl pts [] = 6 := by rw [h, drop_cons ht, tornE, if_neg (by simp [hm])]
theorem te_no {i : Nat} {t : PTear} (h : tornE pl pts [] = tornE pl (pts.drop i) (seenL pts i)) (ht : pts[i]? = some t) (hm : mayN t.name = true) (hl : lookL pl t.name = none) : tornE pl pts [] = 20 := by rw [h, drop_cons ht, tornE, if_pos hm, hl]
theorem seen_any {i : Nat} {n : ByteArray} : (seenL pts i).any (fun s => decide (s = n)) = true ↔ ∃ j u, j < i ∧ pts[j]? = some u ∧ u.name = n := by
  rw [seenL, List.any_reverse, List.any_eq_true]
  constructor
  · rintro ⟨y, hy, e⟩
    obtain ⟨u, hu, rfl⟩ := List.mem_map.1 hy
    obtain ⟨j, hj, e2⟩ := List.getElem_of_mem hu
    have hj2 := hj
    rw [List.length_take] at hj2
    exact ⟨j, u, by omega, by rw [← e2, List.getElem_take]; exact List.getElem?_eq_getElem (by omega), by simpa using e⟩
  · rintro ⟨j, u, hj, hu, e⟩
    refine ⟨u.name, List.mem_map.2 ⟨u, ?_, rfl⟩, by simpa using e⟩
    obtain ⟨hl, rfl⟩ := List.getElem?_eq_some_iff.1 hu
    exact List.mem_iff_getElem.2 ⟨j, by rw [List.length_take]; omega, by rw [List.getElem_take]⟩
theorem te_tear {i : Nat} {t : PTear} {f : PF} (h : tornE pl pts [] = tornE pl (pts.drop i) (seenL pts i)) (ht : pts[i]? = some t) (hm : mayN t.name = true) (hl : lookL pl t.name = some f) (hc : (∃ j u, j < i ∧ pts[j]? = some u ∧ u.name = t.name) ∨ tearOk f t = false) : tornE pl pts [] = 21 := by
  rw [h, drop_cons ht, tornE, if_pos hm, hl]
  simp only
  rw [if_pos]
  exact hc.elim (fun h => .inl (seen_any.2 h)) .inr
theorem te_step {i : Nat} {t : PTear} {f : PF} (h : tornE pl pts [] = tornE pl (pts.drop i) (seenL pts i)) (ht : pts[i]? = some t) (hm : mayN t.name = true) (hl : lookL pl t.name = some f) (hno : ∀ j u, j < i → pts[j]? = some u → u.name ≠ t.name) (hk : tearOk f t = true) : tornE pl pts [] = tornE pl (pts.drop (i + 1)) (seenL pts (i + 1)) := by
  rw [h, drop_cons ht, tornE, if_pos hm, hl]
  simp only
  rw [if_neg, seen_succ ht]
  rintro (hc | hc)
  · obtain ⟨j, u, h1, h2, h3⟩ := seen_any.1 hc; exact hno j u h1 h2 h3
  · rw [hk] at hc; cases hc
theorem torn_nodup : ∀ {ts : List PTear} {s : List ByteArray}, tornE pl ts s = 0 → (ts.map (·.name)).Nodup ∧ ∀ t ∈ ts, ∀ x ∈ s, x ≠ t.name
  | [], _, _ => ⟨by simp, fun _ h => absurd h (by simp)⟩
  | t0 :: l, s, h => by
    rw [tornE] at h
    split at h
    · split at h
      · cases h
      · split at h
        · cases h
        · rename_i hc
          obtain ⟨h1, h2⟩ := torn_nodup h
          have h3 : ∀ x ∈ s, x ≠ t0.name := fun x hx e => hc (.inl (List.any_eq_true.2 ⟨x, hx, by simpa using e⟩))
          refine ⟨List.nodup_cons.2 ⟨fun hm => ?_, h1⟩, fun t ht x hx => ?_⟩
          · obtain ⟨u, hu, e⟩ := List.mem_map.1 hm
            exact h2 u hu t0.name (by simp) e.symm
          · rcases List.mem_cons.1 ht with rfl | ht
            · exact h3 x hx
            · exact h2 t ht x (List.mem_cons_of_mem _ hx)
    · cases h
/-- what of a file is there when k tears have been looked at -/
def tornI (pts : List PTear) (f : PF) (k : Nat) : List UInt8 := match (pts.take k).find? (fun t => decide (t.name = f.name)) with
  | some t => tornB f t
  | none => f.bytes.take f.synced
theorem tornI_zero (pts : List PTear) (f : PF) : tornI pts f 0 = f.bytes.take f.synced := by simp [tornI]
theorem tornI_no {f : PF} {k : Nat} {t : PTear} (ht : pts[k]? = some t) (hn : t.name ≠ f.name) : tornI pts f (k + 1) = tornI pts f k := by
  rw [tornI, tornI, take_snoc ht, List.find?_append]
  have : List.find? (fun t => decide (t.name = f.name)) [t] = none := by simp [List.find?_cons, hn]
  rw [this]; cases (pts.take k).find? (fun t => decide (t.name = f.name)) <;> rfl
theorem tornI_at {f : PF} {k : Nat} {t : PTear} (hnd : (pts.map (·.name)).Nodup) (ht : pts[k]? = some t) (hn : t.name = f.name) : tornI pts f k = f.bytes.take f.synced ∧ tornI pts f (k + 1) = tornB f t := by
  have hno : (pts.take k).find? (fun t => decide (t.name = f.name)) = none := by
    rw [List.find?_eq_none]
    intro u hu
    obtain ⟨j, hj, e⟩ := List.getElem_of_mem hu
    have hj2 := hj
    rw [List.length_take] at hj2
    obtain ⟨hk, rfl⟩ := List.getElem?_eq_some_iff.1 ht
    rw [List.getElem_take] at e
    simp only [decide_eq_true_eq]
    intro h
    have := (List.getElem_inj (h₀ := by simp; omega) (h₁ := by simp; omega) hnd).1 (show (pts.map (·.name))[j]'(by simp; omega) = (pts.map (·.name))[k]'(by simp; omega) by simp only [List.getElem_map]; rw [e, h, hn])
    omega
  refine ⟨by rw [tornI, hno], ?_⟩
  rw [tornI, take_snoc ht, List.find?_append, hno]
  simp [List.find?_cons, hn]
theorem tornI_all (f : PF) : (⟨f.name, tornI pts f pts.length, (tornI pts f pts.length).length⟩ : PF) = crashF pts f := by
  rw [crashF, tornI, List.take_length]
  cases pts.find? (fun t => decide (t.name = f.name)) <;> rfl
theorem torn_app {f : PF} {t : PTear} (hs : f.synced ≤ f.bytes.length) (h0 : 0 ≤ t.keep) : f.bytes.take f.synced ++ (f.bytes.take (f.synced + t.keep.toNat)).drop f.synced ++ t.junk = tornB f t := by
  rw [tornB]
  congr 1
  have : f.bytes.take f.synced = (f.bytes.take (f.synced + t.keep.toNat)).take f.synced := by rw [List.take_take, Nat.min_eq_left (by omega)]
  rw [this, List.take_append_drop]
theorem crash_snoc {a : Option Addr} {c i : Nat} (h : out.map RF.p = ((rs.take i).map RF.p).map (crashF pts)) (hr : rs[i]? = some r) : (out ++ [(⟨r.name, a, c, tornI pts r.p pts.length, (tornI pts r.p pts.length).length⟩ : RF)]).map RF.p = ((rs.take (i + 1)).map RF.p).map (crashF pts) := by
  rw [List.map_append, h, take_snoc hr, List.map_append, List.map_append, List.map_cons, List.map_nil, List.map_cons, List.map_nil, List.map_cons, List.map_nil, ← tornI_all]; rfl
theorem tornI_len {f : PF} {k : Nat} (he : tornE pl pts [] = 0) (hn : (pl.map (·.name)).Nodup) (hf : f ∈ pl) (hs : f.synced ≤ f.bytes.length) : (tornI pts f k).length ≤ f.bytes.length := by
  unfold tornI
  split
  · rename_i t ht
    have ht2 : t.name = f.name := by have := List.find?_some ht; simpa using this
    obtain ⟨f0, h1, h2⟩ := tornE_ok he t (List.mem_of_mem_take (List.mem_of_find?_eq_some ht))
    rw [ht2, lookL_mem hn hf] at h1
    cases h1
    simp only [tearOk, Bool.and_eq_true, decide_eq_true_eq] at h2
    simp only [tornB, List.length_append, List.length_take]; omega
  · rw [List.length_take]; omega
theorem SortedL.crash {l : List PF} (h : SortedL l) : SortedL (l.map (crashF pts)) := by
  rw [SortedL, List.pairwise_map]
  refine List.Pairwise.imp (fun {a b} hab => ?_) h
  rw [crashF_name, crashF_name]; exact hab
end



set_option maxRecDepth 100000 in
set_option maxHeartbeats 4000000 in
theorem copyR (x : Nat) (al : Option Addr) (cl : Nat) (room : Int) (rs : List RF) (w : World) (hD : RefO w x al cl room rs) :
    Calls Try.prog 35 #[.pointer (some ⟨x, 0, none⟩)] w (Ret (fun v w' => ∃ x2 al2 cl2 rs2, v = .pointer (some ⟨x2, 0, none⟩) ∧ RefO w' x2 al2 cl2 room rs2 ∧ rs2.map RF.p = rs.map RF.p ∧ (∀ q, refS x2 al2 rs2 q → w.heap.size ≤ q) ∧ Ext w w')) := by
  obtain ⟨⟨hb, ho, hy, hox, hbx, hbo⟩, hok, hso⟩ := hD
  have hml : (rs.map RF.c).length = rs.length := List.length_map ..
  have hnd := RefO.names hok
  have hl : rs.length ≤ 64 := by have := hok.len; rwa [List.length_map] at this
  have hroom := hok.room
  have hused := hok.used
  refine calls_run (n := 46) Try.func35 rfl rfl rfl ?_
  refine Run.seq ?_
  refine Run.region ?_
  refine RL.val (x_assignP rfl) ?_
  refine RL.nil ?_
  refine Run.seq ?_
  refine Run.region ?_
  refine RL.val (x_moveP rfl) ?_
  refine RL.val (x_nilCheck rfl) ?_
  refine RL.val (x_fld (o' := 0) Try.underlying89 rfl ty3 rfl rfl rfl) ?_
  refine RL.val (x_ld (v := .int .i64 (room)) ty3 rfl rfl (hb.cl.field (i := 0) rfl)) ?_
  refine RL.val (x_build (cells := #[.int .i64 (room), .slice (none) (0) (0)]) (by kernel_rfl)) ?_
  refine RL.st rfl <| St1.box (v := .agg #[.int .i64 (room), .slice (none) (0) (0)]) rfl ?_
  intro b_1 w_2 hl_5 hb_4 K_3
  replace hb_4 : Blk w_2 b_1 [.int .i64 (room), .slice (none) (0) (0)] 89 := hb_4
  have ne_6 : x < b_1 := Nat.lt_of_lt_of_le hb.lt hl_5
  have pr_7 : ¬ own al b_1 := fun h => absurd (ho.own_lt _ h) (by omega)
  have pr_8 : ¬ bytesS rs b_1 := fun h => absurd (hy.own_lt _ h) (by omega)
  have : w.heap.size ≤ b_1 := hl_5
  clear hl_5
  replace hb := hb.ext K_3
  replace ho := ho.ext K_3
  replace hy := hy.ext K_3
  have K0 := (K_3 : Ext w _)
  refine RL.val (x_assignP rfl) ?_
  refine RL.nil ?_
  have hn := BytesAt.nil w_2
  refine Run.seq ?_
  refine Run.seq ?_
  refine Run.region ?_
  refine RL.val (x_assignI rfl) ?_
  refine RL.nil ?_
  refine Run.block ?_
  refine Run.loop (ι := Nat) (fun i ρ' w' => ∃ out : List RF, ∃ ao : Option Addr, ∃ co : Nat, Holds ρ' [(0, .pointer (some ⟨x, 0, none⟩)), (3, .pointer (some ⟨b_1, 0, none⟩)), (4, .int .i64 (((i : Nat) : Int)))] ∧ Ext w w' ∧ (Blk w' x [.int .i64 (room), .slice (al) ((rs.map RF.c).length) (cl)] 89) ∧ (Blk w' b_1 [.int .i64 (room), .slice (ao) ((out.map RF.c).length) (co)] 89) ∧ (OwnSl w' 93 (al) (cl) (rs.map RF.c)) ∧ (BytesAt w' rs) ∧ (BytesAt w' out) ∧ (OwnSl w' 93 ao co (out.map RF.c)) ∧ (¬ bytesS out x) ∧ (¬ bytesS out b_1) ∧ (∀ q_, bytesS out q_ → ¬ own al q_) ∧ (∀ q_, bytesS out q_ → ¬ bytesS rs q_) ∧ (∀ q_, bytesS out q_ → ¬ own ao q_) ∧ (∀ q_, bytesS out q_ → w.heap.size ≤ q_) ∧ (¬ own ao x) ∧ (¬ own ao b_1) ∧ (∀ q_, own ao q_ → ¬ own al q_) ∧ (∀ q_, own ao q_ → ¬ bytesS rs q_) ∧ (∀ q_, own ao q_ → w.heap.size ≤ q_) ∧ (i ≤ rs.length) ∧ (out.map RF.p = (rs.take i).map RF.p)) (fun i => rs.length - i) 0 ?_ ?_
  · have ho_24 := OwnSl.nil (α := FileC) w_2 93
    refine ⟨[], _, _, ⟨rfl, rfl, rfl, trivial⟩, K0, hb, hb_4, ho, hy, hn, ho_24, (fun ⟨_, h_, _⟩ => absurd h_ (by simp)), (fun ⟨_, h_, _⟩ => absurd h_ (by simp)), (fun q_ ⟨_, h_, _⟩ _ => absurd h_ (by simp)), (fun q_ ⟨_, h_, _⟩ _ => absurd h_ (by simp)), (fun q_ h1 h2 => (fun q_ h1 _ => own_none q_ h1) q_ h2 h1), (fun q_ ⟨_, h_, _⟩ => absurd h_ (by simp)), (own_none x), (own_none b_1), (fun q_ h1 _ => own_none q_ h1), (fun q_ h1 _ => own_none q_ h1), (fun q_ h1 => absurd h1 (own_none q_)), ?_, ?_⟩
    · omega
    · rfl
  clear hb ho hy hb_4 hn
  clear K0
  rintro i ρ_25 w_9 ⟨out, ao, co, hH_10, K0, hb, hb_4, ho, hy, hO_11, ho_12, pr_13, pr_14, pr_15, pr_16, pr_17, pr_18, pr_19, pr_20, pr_21, pr_22, pr_23, hi, hout⟩ ih1
  obtain ⟨ρ₀, rfl⟩ := hH_10.ex
  clear hH_10
  refine Run.seq ?_
  refine Run.seq ?_
  refine Run.region ?_
  refine RL.val (x_moveI rfl) ?_
  refine RL.val (x_moveP rfl) ?_
  refine RL.val (x_nilCheck rfl) ?_
  refine RL.val (x_fld (o' := 1) Try.underlying89 rfl ty87 rfl rfl rfl) ?_
  refine RL.val (x_ld (v := .slice (al) ((rs.map RF.c).length) (cl)) ty87 rfl rfl (hb.cl.field (i := 1) rfl)) ?_
  refine RL.val (x_lenSl Try.underlying87 rfl) ?_
  refine RL.val (x_ltI rfl rfl) ?_
  refine RL.nil ?_
  refine Run.cond rfl (fun hc18 => ?_) (fun hc18 => ?_)
  · try simp only [br] at hc18
    refine Run.skip ?_
    refine Run.seq ?_
    refine Run.block ?_
    refine Run.seq ?_
    refine Run.region ?_
    refine RL.val (x_moveP rfl) ?_
    refine RL.val (x_nilCheck rfl) ?_
    refine RL.val (x_fld (o' := 1) Try.underlying89 rfl ty87 rfl rfl rfl) ?_
    refine RL.val (x_ld (v := .slice (al) ((rs.map RF.c).length) (cl)) ty87 rfl rfl (hb.cl.field (i := 1) rfl)) ?_
    refine RL.val (x_moveI rfl) ?_
    obtain ⟨b_26, o_27, y, hx, ha_28, hc_29⟩ := ho.sl.el (i := i) (by first | omega | (simp only [List.length_set]; omega))
    refine RL.val (x_idxN Try.underlying87 ty93 rfl rfl ha_28 (by first | omega | (simp only [List.length_set]; omega))) ?_
    obtain ⟨r, hr, hxr⟩ := rf_get hx
    have hn_r : y.name = r.name := by rw [hxr]; rfl
    refine RL.val (litV (v' := .agg #[.string (r.name), .slice (r.a) (r.bytes.length) (r.cap), .int .i64 (((r.synced : Nat) : Int))]) (x_ldV (v := .agg #[.string ((y).name), .slice ((y).b.a) ((y).b.len) ((y).b.cap), .int .i64 ((y).synced)]) (y := y) ty93 rfl hc_29 rfl) (by rw [hxr]; rfl)) ?_
    refine RL.st rfl <| St1.alloc ty93 ?_
    intro b_32 w_33 hl_36 hb_35 K_34
    replace hb_35 : Blk w_33 b_32 [.string (⟨#[]⟩), .slice (none) (0) (0), .int .i64 (0)] 93 := hb_35
    have ne_37 : x < b_32 := Nat.lt_of_lt_of_le hb.lt hl_36
    have ne_38 : b_1 < b_32 := Nat.lt_of_lt_of_le hb_4.lt hl_36
    have ne_39 : b_26 < b_32 := Nat.lt_of_lt_of_le hc_29.lt hl_36
    have pr_40 : ¬ own al b_32 := fun h => absurd (ho.own_lt _ h) (by omega)
    have pr_41 : ¬ bytesS rs b_32 := fun h => absurd (hy.own_lt _ h) (by omega)
    have pr_42 : ¬ bytesS out b_32 := fun h => absurd (hO_11.own_lt _ h) (by omega)
    have pr_43 : ¬ own ao b_32 := fun h => absurd (ho_12.own_lt _ h) (by omega)
    have : w.heap.size ≤ b_32 := Nat.le_trans K0.size hl_36
    clear hl_36
    replace hb := hb.ext K_34
    replace hb_4 := hb_4.ext K_34
    replace ho := ho.ext K_34
    replace hy := hy.ext K_34
    replace hO_11 := hO_11.ext K_34
    replace ho_12 := ho_12.ext K_34
    replace hc_29 := hc_29.ext K_34
    replace K0 := K0.ext K_34
    refine RL.st rfl <| St1.store (v := .agg #[.string (r.name), .slice (r.a) (r.bytes.length) (r.cap), .int .i64 (((r.synced : Nat) : Int))]) ty93 rfl rfl rfl (by simp [Value.cells, Value.oneCell']) hb_35 (by simp) ?_
    intro w_44 hb_35_ K_45
    have hb_35' : Blk w_44 b_32 [.string (r.name), .slice (r.a) (r.bytes.length) (r.cap), .int .i64 (((r.synced : Nat) : Int))] 93 := hb_35_
    clear hb_35_
    replace hb := hb.keep K_45 (by simp only [one]; omega)
    replace hb_4 := hb_4.keep K_45 (by simp only [one]; omega)
    replace ho := ho.keepO K_45 (fun q_ hq_ eq_ => pr_40 (by simp only [one] at eq_; rw [← eq_]; exact hq_))
    replace hy := hy.keepO K_45 (fun q_ hq_ eq_ => pr_41 (by simp only [one] at eq_; rw [← eq_]; exact hq_))
    replace hO_11 := hO_11.keepO K_45 (fun q_ hq_ eq_ => pr_42 (by simp only [one] at eq_; rw [← eq_]; exact hq_))
    replace ho_12 := ho_12.keepO K_45 (fun q_ hq_ eq_ => pr_43 (by simp only [one] at eq_; rw [← eq_]; exact hq_))
    replace hc_29 := hc_29.keep K_45 (fun e => pr_40 (by simp only [one] at e; rw [← e]; exact (own_sub _) _ ha_28))
    replace K0 := K0.new K_45 (fun x hx => by simp only [one] at hx; omega)
    replace hb_35 := hb_35'
    clear hb_35'
    refine RL.nil ?_
    have hrm := hr
    have hrbl : r.bytes.length ≤ 16777216 := by have := usedL_mem (pl := rs.map RF.p) (f := r.p) (List.mem_map.2 ⟨r, List.mem_of_getElem? hr, rfl⟩); have h2 : r.p.bytes = r.bytes := rfl; rw [h2] at this; omega
    have hrsy : r.synced ≤ r.bytes.length := hok.sync r.p (List.mem_map.2 ⟨r, List.mem_of_getElem? hr, rfl⟩)
    have houl : out.length = i := by have := congrArg List.length hout; simp at this; omega
    refine Run.drawT [17] (m := 18) (by kernel_rfl) rfl ?_
    intro w_46 K_47
    replace hb := hb.ext K_47
    replace hb_4 := hb_4.ext K_47
    replace ho := ho.ext K_47
    replace hy := hy.ext K_47
    replace hO_11 := hO_11.ext K_47
    replace ho_12 := ho_12.ext K_47
    replace hb_35 := hb_35.ext K_47
    replace K0 := K0.ext K_47
    refine ⟨fun w' => Blk w' b_1 [.int .i64 (room), .slice (ao) ((out.map RF.c).length) (co)] 89 ∧ Blk w' b_32 [.string (r.name), .slice (r.a) (r.bytes.length) (r.cap), .int .i64 (((r.synced : Nat) : Int))] 93 ∧ True, ?_⟩
    refine RT.takeP (v := .pointer (some ⟨b_1, 0, none⟩)) 0 rfl (by kernel_rfl) (.inr ⟨hb_4, hb_35, trivial⟩) (fun _ => (x_moveP rfl)) ?_
    refine RT.takeP (v := .pointer (some ⟨b_1, 0, none⟩)) 1 rfl (by kernel_rfl) (.inr ⟨hb_4, hb_35, trivial⟩) (fun _ => (x_moveP rfl)) ?_
    refine RT.takeP (v := .pointer (some ⟨b_1, 0, none⟩)) 2 rfl (by kernel_rfl) (.inr ⟨hb_4, hb_35, trivial⟩) (fun _ => (x_nilCheck rfl)) ?_
    refine RT.takeP (v := .pointer (some ⟨b_1, 1, none⟩)) 3 rfl (by kernel_rfl) (.inr ⟨hb_4, hb_35, trivial⟩) (fun _ => (x_fld (o' := 1) Try.underlying89 rfl ty87 rfl rfl rfl)) ?_
    refine RT.take (v := .slice (ao) ((out.map RF.c).length) (co)) 4 rfl (by kernel_rfl) ⟨hb_4, hb_35, trivial⟩ (by rintro _ ⟨hb_4, hb_35, -⟩; exact (x_ld (v := .slice (ao) ((out.map RF.c).length) (co)) ty87 rfl rfl (hb_4.cl.field (i := 1) rfl))) ?_
    refine RT.takeP (v := .pointer (some ⟨b_32, 0, none⟩)) 5 rfl (by kernel_rfl) (.inr ⟨hb_4, hb_35, trivial⟩) (fun _ => (x_fld (o' := 0) Try.underlying93 rfl ty9 rfl rfl rfl)) ?_
    refine RT.take (v := .string (r.name)) 6 rfl (by kernel_rfl) ⟨hb_4, hb_35, trivial⟩ (by rintro _ ⟨hb_4, hb_35, -⟩; exact (x_ld (v := .string (r.name)) ty9 rfl rfl (hb_35.cl.field (i := 0) rfl))) ?_
    refine RT.takeP (v := .pointer (some ⟨b_32, 1, none⟩)) 7 rfl (by kernel_rfl) (.inr ⟨hb_4, hb_35, trivial⟩) (fun _ => (x_fld (o' := 1) Try.underlying93 rfl ty26 rfl rfl rfl)) ?_
    refine RT.take (v := .slice (r.a) (r.bytes.length) (r.cap)) 8 rfl (by kernel_rfl) ⟨hb_4, hb_35, trivial⟩ (by rintro _ ⟨hb_4, hb_35, -⟩; exact (x_ld (v := .slice (r.a) (r.bytes.length) (r.cap)) ty26 rfl rfl (hb_35.cl.field (i := 1) rfl))) ?_
    refine RT.takeP (v := .pointer (some ⟨b_32, 2, none⟩)) 10 rfl (by kernel_rfl) (.inr ⟨hb_4, hb_35, trivial⟩) (fun _ => (x_fld (o' := 2) Try.underlying93 rfl ty3 rfl rfl rfl)) ?_
    refine RT.take (v := .int .i64 (((r.synced : Nat) : Int))) 11 rfl (by kernel_rfl) ⟨hb_4, hb_35, trivial⟩ (by rintro _ ⟨hb_4, hb_35, -⟩; exact (x_ld (v := .int .i64 (((r.synced : Nat) : Int))) ty3 rfl rfl (hb_35.cl.field (i := 2) rfl))) ?_
    have ho_48 := OwnSl.nil (α := UInt8) w_46 5
    refine RT.st 9 rfl (by kernel_rfl) rfl <| St1.append (xs := ([] : List UInt8)) (ys := r.bytes) Try.underlying26 ty5 rfl rfl rfl ho_48 (hy.all r (List.mem_of_getElem? hr)).1 (by simp only [lr]; omega) (by decide) ?_
    intro a_49 c_50 w_51 ho_52 K_53 hm_54 hrm_55
    have pr_56 : ¬ own a_49 x := hm_54.not (own_none x) hb.lt
    have pr_57 : ¬ own a_49 b_1 := hm_54.not (own_none b_1) hb_4.lt
    have pr_58 : ∀ q_, own a_49 q_ → ¬ own al q_ := hm_54.apart (fun q_ h1 _ => own_none q_ h1) ho.own_lt
    have pr_59 : ∀ q_, own a_49 q_ → ¬ bytesS rs q_ := hm_54.apart (fun q_ h1 _ => own_none q_ h1) hy.own_lt
    have pr_60 : ∀ q_, own a_49 q_ → ¬ bytesS out q_ := hm_54.apart (fun q_ h1 _ => own_none q_ h1) hO_11.own_lt
    have pr_61 : ∀ q_, own a_49 q_ → ¬ own ao q_ := hm_54.apart (fun q_ h1 _ => own_none q_ h1) ho_12.own_lt
    have pr_62 : ¬ own a_49 b_32 := hm_54.not (own_none b_32) hb_35.lt
    have pg_63 : ∀ q_, own a_49 q_ → w.heap.size ≤ q_ := hm_54.ge (fun q_ h1 => absurd h1 (own_none q_)) K0.size
    replace hb := hb.keep K_53 (own_none x)
    replace hb_4 := hb_4.keep K_53 (own_none b_1)
    replace ho := ho.keepO K_53 (fun q_ h1 h2 => (fun q_ h1 _ => own_none q_ h1) q_ h2 h1)
    replace hy := hy.keepO K_53 (fun q_ h1 h2 => (fun q_ h1 _ => own_none q_ h1) q_ h2 h1)
    replace hO_11 := hO_11.keepO K_53 (fun q_ h1 h2 => (fun q_ h1 _ => own_none q_ h1) q_ h2 h1)
    replace ho_12 := ho_12.keepO K_53 (fun q_ h1 h2 => (fun q_ h1 _ => own_none q_ h1) q_ h2 h1)
    replace hb_35 := hb_35.keep K_53 (own_none b_32)
    replace K0 := K0.new K_53 (fun q_ h1 => absurd h1 (own_none q_))
    clear hm_54
    clear hrm_55
    rw [List.nil_append] at ho_52 ⊢
    refine ⟨.inr ⟨hb_4, hb_35, trivial⟩, ?_⟩
    refine RT.takeP (v := .agg #[.string (r.name), .slice (a_49) ((r.bytes).length) (c_50), .int .i64 (((r.synced : Nat) : Int))]) 12 rfl (by kernel_rfl) (.inr ⟨hb_4, hb_35, trivial⟩) (fun _ => (x_build (cells := #[.string (r.name), .slice (a_49) ((r.bytes).length) (c_50), .int .i64 (((r.synced : Nat) : Int))]) (by kernel_rfl))) ?_
    refine RT.st 13 rfl (by kernel_rfl) rfl <| St1.buildSlice ([(⟨r.name, ⟨a_49, (r.bytes).length, c_50⟩, ((r.synced : Nat) : Int)⟩ : FileC)] : List FileC) Try.underlying87 ty93 rfl rfl (by first | decide | (simp [Enc.size])) ?_
    intro b_64 w_65 hl_68 ho_67 K_66
    have pr_69 : ¬ own (some ⟨b_64, 0, none⟩) x := notNew (ge_new hl_68) hb.lt
    have pr_70 : ¬ own (some ⟨b_64, 0, none⟩) b_1 := notNew (ge_new hl_68) hb_4.lt
    have pr_71 : ∀ q_, own (some ⟨b_64, 0, none⟩) q_ → ¬ own al q_ := apartNew (ge_new hl_68) ho.own_lt
    have pr_72 : ∀ q_, own (some ⟨b_64, 0, none⟩) q_ → ¬ bytesS rs q_ := apartNew (ge_new hl_68) hy.own_lt
    have pr_73 : ∀ q_, own (some ⟨b_64, 0, none⟩) q_ → ¬ bytesS out q_ := apartNew (ge_new hl_68) hO_11.own_lt
    have pr_74 : ∀ q_, own (some ⟨b_64, 0, none⟩) q_ → ¬ own ao q_ := apartNew (ge_new hl_68) ho_12.own_lt
    have pr_75 : ¬ own (some ⟨b_64, 0, none⟩) b_32 := notNew (ge_new hl_68) hb_35.lt
    have pr_76 : ∀ q_, own (some ⟨b_64, 0, none⟩) q_ → ¬ own a_49 q_ := apartNew (ge_new hl_68) ho_52.own_lt
    have pg_77 : ∀ q_, own (some ⟨b_64, 0, none⟩) q_ → w.heap.size ≤ q_ := fun q_ h => Nat.le_trans K0.size ((ge_new hl_68) q_ h)
    clear hl_68
    replace hb := hb.ext K_66
    replace hb_4 := hb_4.ext K_66
    replace ho := ho.ext K_66
    replace hy := hy.ext K_66
    replace hO_11 := hO_11.ext K_66
    replace ho_12 := ho_12.ext K_66
    replace hb_35 := hb_35.ext K_66
    replace ho_52 := ho_52.ext K_66
    replace K0 := K0.ext K_66
    refine ⟨.inr ⟨hb_4, hb_35, trivial⟩, ?_⟩
    refine RT.st 14 rfl (by kernel_rfl) rfl <| St1.append (xs := out.map RF.c) (ys := ([(⟨r.name, ⟨a_49, (r.bytes).length, c_50⟩, ((r.synced : Nat) : Int)⟩ : FileC)] : List FileC)) Try.underlying87 ty93 rfl rfl rfl ho_12 ho_67.sl (by rw [List.length_map, houl]; simp only [lr]; omega) (by decide) ?_
    intro a_78 c_79 w_80 ho_81 K_82 hm_83 hrm_84
    have pr_85 : ¬ own a_78 x := hm_83.not pr_19 hb.lt
    have pr_86 : ¬ own a_78 b_1 := hm_83.not pr_20 hb_4.lt
    have pr_87 : ∀ q_, own a_78 q_ → ¬ own al q_ := hm_83.apart pr_21 ho.own_lt
    have pr_88 : ∀ q_, own a_78 q_ → ¬ bytesS rs q_ := hm_83.apart pr_22 hy.own_lt
    have pr_89 : ∀ q_, own a_78 q_ → ¬ bytesS out q_ := hm_83.apart (fun q_ h1 h2 => pr_17 q_ h2 h1) hO_11.own_lt
    have pr_90 : ¬ own a_78 b_32 := hm_83.not pr_43 hb_35.lt
    have pr_91 : ∀ q_, own a_78 q_ → ¬ own a_49 q_ := hm_83.apart (fun q_ h1 h2 => pr_61 q_ h2 h1) ho_52.own_lt
    have pr_92 : ∀ q_, own a_78 q_ → ¬ own (some ⟨b_64, 0, none⟩) q_ := hm_83.apart (fun q_ h1 h2 => pr_74 q_ h2 h1) ho_67.own_lt
    have pg_93 : ∀ q_, own a_78 q_ → w.heap.size ≤ q_ := hm_83.ge pr_23 K0.size
    replace hb := hb.keep K_82 pr_19
    replace hb_4 := hb_4.keep K_82 pr_20
    replace ho := ho.keepO K_82 (fun q_ h1 h2 => pr_21 q_ h2 h1)
    replace hy := hy.keepO K_82 (fun q_ h1 h2 => pr_22 q_ h2 h1)
    replace hO_11 := hO_11.keepO K_82 pr_17
    replace hb_35 := hb_35.keep K_82 pr_43
    replace ho_52 := ho_52.keepO K_82 pr_61
    replace ho_67 := ho_67.keepO K_82 pr_74
    replace K0 := K0.new K_82 pr_23
    clear hm_83
    clear hrm_84
    refine ⟨.inr ⟨hb_4, hb_35, trivial⟩, ?_⟩
    refine RT.takeP (v := .pointer (some ⟨b_1, 0, none⟩)) 15 rfl (by kernel_rfl) (.inr ⟨hb_4, hb_35, trivial⟩) (fun _ => (x_nilCheck rfl)) ?_
    refine RT.takeP (v := .pointer (some ⟨b_1, 1, none⟩)) 16 rfl (by kernel_rfl) (.inr ⟨hb_4, hb_35, trivial⟩) (fun _ => (x_fld (o' := 1) Try.underlying89 rfl ty87 rfl rfl rfl)) ?_
    refine RT.st 17 rfl (by kernel_rfl) rfl <| St1.store (v := .slice (a_78) (((out.map RF.c) ++ ([(⟨r.name, ⟨a_49, (r.bytes).length, c_50⟩, ((r.synced : Nat) : Int)⟩ : FileC)] : List FileC)).length) (c_79)) ty87 rfl rfl rfl (by simp [Value.cells, Value.oneCell']) hb_4 (by simp) ?_
    intro w_94 hb_4_ K_95
    have hb_4' : Blk w_94 b_1 [.int .i64 (room), .slice (a_78) (((out.map RF.c) ++ ([(⟨r.name, ⟨a_49, (r.bytes).length, c_50⟩, ((r.synced : Nat) : Int)⟩ : FileC)] : List FileC)).length) (c_79)] 89 := hb_4_
    clear hb_4_
    replace hb := hb.keep K_95 (by simp only [one]; omega)
    replace ho := ho.keepO K_95 (fun q_ hq_ eq_ => pr_7 (by simp only [one] at eq_; rw [← eq_]; exact hq_))
    replace hy := hy.keepO K_95 (fun q_ hq_ eq_ => pr_8 (by simp only [one] at eq_; rw [← eq_]; exact hq_))
    replace hO_11 := hO_11.keepO K_95 (fun q_ hq_ eq_ => pr_14 (by simp only [one] at eq_; rw [← eq_]; exact hq_))
    replace hb_35 := hb_35.keep K_95 (by simp only [one]; omega)
    replace ho_52 := ho_52.keepO K_95 (fun q_ hq_ eq_ => pr_57 (by simp only [one] at eq_; rw [← eq_]; exact hq_))
    replace ho_67 := ho_67.keepO K_95 (fun q_ hq_ eq_ => pr_70 (by simp only [one] at eq_; rw [← eq_]; exact hq_))
    replace ho_81 := ho_81.keepO K_95 (fun q_ hq_ eq_ => pr_86 (by simp only [one] at eq_; rw [← eq_]; exact hq_))
    replace K0 := K0.new K_95 (fun x hx => by simp only [one] at hx; omega)
    replace hb_4 := hb_4'
    clear hb_4'
    refine ⟨.inl (by kernel_rfl), ?_⟩
    refine RT.done (by kernel_rfl) ?_
    rw [rc_snoc3] at ho_81 hb_4
    have hn' := hO_11.snoc ho_52 r.name r.synced
    have pr_96 : ¬ bytesS (out ++ [(⟨r.name, a_49, c_50, r.bytes, r.synced⟩ : RF)]) x := fun x_ => (bytesS_snoc _ x_).elim pr_56 (fun y_ => pr_13 y_)
    have pr_97 : ¬ bytesS (out ++ [(⟨r.name, a_49, c_50, r.bytes, r.synced⟩ : RF)]) b_1 := fun x_ => (bytesS_snoc _ x_).elim pr_57 (fun y_ => pr_14 y_)
    have pr_98 : ∀ q_, bytesS (out ++ [(⟨r.name, a_49, c_50, r.bytes, r.synced⟩ : RF)]) q_ → ¬ own al q_ := fun q_ x_ z_ => (bytesS_snoc _ x_).elim (fun y_ => pr_58 q_ y_ z_) (fun y_ => (fun y_ => pr_15 q_ y_ z_) y_)
    have pr_99 : ∀ q_, bytesS (out ++ [(⟨r.name, a_49, c_50, r.bytes, r.synced⟩ : RF)]) q_ → ¬ bytesS rs q_ := fun q_ x_ z_ => (bytesS_snoc _ x_).elim (fun y_ => pr_59 q_ y_ z_) (fun y_ => (fun y_ => pr_16 q_ y_ z_) y_)
    have pr_100 : ¬ bytesS (out ++ [(⟨r.name, a_49, c_50, r.bytes, r.synced⟩ : RF)]) b_32 := fun x_ => (bytesS_snoc _ x_).elim pr_62 (fun y_ => pr_42 y_)
    have pr_101 : ∀ q_, bytesS (out ++ [(⟨r.name, a_49, c_50, r.bytes, r.synced⟩ : RF)]) q_ → ¬ own (some ⟨b_64, 0, none⟩) q_ := fun q_ x_ z_ => (bytesS_snoc _ x_).elim (fun y_ => (fun q_ h1 h2 => pr_76 q_ h2 h1) q_ y_ z_) (fun y_ => (fun y_ => (fun q_ h1 h2 => pr_73 q_ h2 h1) q_ y_ z_) y_)
    have pr_102 : ∀ q_, bytesS (out ++ [(⟨r.name, a_49, c_50, r.bytes, r.synced⟩ : RF)]) q_ → ¬ own a_78 q_ := fun q_ x_ z_ => (bytesS_snoc _ x_).elim (fun y_ => (fun q_ h1 h2 => pr_91 q_ h2 h1) q_ y_ z_) (fun y_ => (fun y_ => (fun q_ h1 h2 => pr_89 q_ h2 h1) q_ y_ z_) y_)
    have pg_103 : ∀ q_, bytesS (out ++ [(⟨r.name, a_49, c_50, r.bytes, r.synced⟩ : RF)]) q_ → w.heap.size ≤ q_ := fun q_ x_ => (bytesS_snoc _ x_).elim (fun y_ => pg_63 q_ y_) (fun y_ => (fun y_ => pr_18 q_ y_) y_)
    refine Run.inBlock ?_
    refine Run.region ?_
    refine RL.val (x_moveI rfl) ?_
    refine RL.val (litI (c := ((i + 1 : Nat) : Int)) (x_add rfl rfl (by omega) (by omega)) rfl) ?_
    refine RL.val (x_assignI rfl) ?_
    refine RL.nil ?_
    refine ih1 (i + 1) _ _ ?_ (by omega)
    refine ⟨(out ++ [(⟨r.name, a_49, c_50, r.bytes, r.synced⟩ : RF)]), _, _, ⟨rfl, rfl, rfl, trivial⟩, K0, hb, hb_4, ho, hy, hn', ho_81, pr_96, pr_97, pr_98, pr_99, pr_102, pg_103, pr_85, pr_86, pr_87, pr_88, pg_93, ?_, ?_⟩
    · omega
    · exact rp_snoc hout hr
  · try simp only [br] at hc18
    refine Run.exit rfl ?_
    refine Run.seq ?_
    refine Run.region ?_
    refine RL.val (x_moveP rfl) ?_
    refine RL.val (x_assignP rfl) ?_
    refine RL.nil ?_
    refine Run.ret1 (v := .pointer (some ⟨b_1, 0, none⟩)) Try.func35 rfl rfl ?_
    have hil : i = rs.length := by omega
    rw [hil, List.take_length] at hout
    exact ⟨_, rfl, b_1, ao, co, out, rfl, ⟨⟨hb_4, ho_12, hO_11, pr_20, pr_14, pr_17⟩, by rw [hout]; exact hok, by rw [hout]; exact hso⟩, hout, fun q h_ => h_.elim (fun h_ => h_.elim (fun e_ => by rw [e_]; omega) (fun h_ => pr_23 q h_)) (fun h_ => pr_18 q h_), K0⟩

end Go.Proofs.Ytambibdkanpmaaa
