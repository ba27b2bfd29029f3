/-
  The reference's disk, third part.
-/
import Derived.Test.YtambibdkanpmaaaRows
import Derived.Test.YtambibdkanpmaaaDo
namespace Go.Proofs.Ytambibdkanpmaaa
attribute [local irreducible] St1 RL RA RT RT1 Run

section
variable {w w' : World} {x : Nat} {al al' : Option Addr} {cl cl' : Nat} {room : Int} {rs rs' : List RF} {n : ByteArray} {r r0 : RF} {b : List UInt8}
theorem rc_snoc {l : List RF} : l.map RF.c ++ [(⟨r.name, ⟨r.a, r.bytes.length, r.cap⟩, ((r.synced : Nat) : Int)⟩ : FileC)] = (l ++ [r]).map RF.c := by rw [List.map_append]; rfl
theorem rc_snoc' {l : List RF} {y : FileC} (e : y = r.c) : l.map RF.c ++ [y] = (l ++ [r]).map RF.c := by rw [List.map_append, e]; rfl
theorem BytesAt.ins (h : BytesAt w rs) (h0 : BytesAt w [r0]) : BytesAt w (insR r0 rs) := ⟨fun z hz => (List.mem_cons.1 (insR_mem hz)).elim (fun e => h0.all z (by simp [e])) (fun h' => h.all z h')⟩
theorem bytesS_ins : ∀ q, bytesS (insR r0 rs) q → bytesS [r0] q ∨ bytesS rs q := fun q ⟨z, hz, hq⟩ => (List.mem_cons.1 (insR_mem hz)).elim (fun e => .inl ⟨z, by simp [e], hq⟩) (fun h => .inr ⟨z, h, hq⟩)
theorem BytesAt.one (h : BytesAt w rs) {i : Nat} (hr : rs[i]? = some r) (n : ByteArray) (s : Nat) : BytesAt w [⟨n, r.a, r.cap, r.bytes, s⟩] := ⟨fun z hz => by simp only [List.mem_singleton] at hz; subst hz; exact h.all r (List.mem_of_getElem? hr)⟩
theorem bytesS_one {i : Nat} (hr : rs[i]? = some r) (n : ByteArray) (s : Nat) : ∀ q, bytesS [⟨n, r.a, r.cap, r.bytes, s⟩] q → bytesS rs q := fun q ⟨z, hz, hq⟩ => by simp only [List.mem_singleton] at hz; subst hz; exact ⟨r, List.mem_of_getElem? hr, hq⟩
theorem BytesAt.none (w : World) (n : ByteArray) (s : Nat) : BytesAt w [⟨n, none, 0, [], s⟩] := ⟨fun z hz => by simp only [List.mem_singleton] at hz; subst hz; exact ⟨SlOf.nil _ _, fun q h => absurd h (own_none q), Nat.le_refl _⟩⟩
theorem bytesS_none (n : ByteArray) (s : Nat) : ∀ q, ¬ bytesS [⟨n, none, 0, [], s⟩] q := fun q ⟨z, hz, hq⟩ => by simp only [List.mem_singleton] at hz; subst hz; exact own_none q hq
theorem BytesAt.set (h : BytesAt w rs) {a : Option Addr} {c : Nat} {bs : List UInt8} (ho : OwnSl w 5 a c bs) (i : Nat) (n : ByteArray) (s : Nat) : BytesAt w (rs.set i ⟨n, a, c, bs, s⟩) := ⟨fun z hz => (List.mem_or_eq_of_mem_set hz).elim (fun h' => h.all z h') (fun e => by rw [e]; exact ⟨ho.sl, ho.own_lt, ho.le_cap⟩)⟩
theorem bytesS_set {a : Option Addr} {c : Nat} {bs : List UInt8} {i : Nat} {n : ByteArray} {s : Nat} : ∀ q, bytesS (rs.set i ⟨n, a, c, bs, s⟩) q → own a q ∨ bytesS rs q := fun q ⟨z, hz, hq⟩ => (List.mem_or_eq_of_mem_set hz).elim (fun h => .inr ⟨z, h, hq⟩) (fun e => .inl (by rw [e] at hq; exact hq))
theorem set_rc {i : Nat} {y : FileC} {a : Option Addr} {c : Nat} {bs : List UInt8} (e : y = r.c) : (rs.map RF.c).set i (⟨y.name, ⟨a, bs.length, c⟩, y.synced⟩ : FileC) = (rs.set i ⟨r.name, a, c, bs, r.synced⟩).map RF.c := by rw [List.map_set, e]; rfl
theorem set_rs {i : Nat} {y : FileC} {s : Nat} (e : y = r.c) : (rs.map RF.c).set i (⟨y.name, y.b, ((s : Nat) : Int)⟩ : FileC) = (rs.set i ⟨r.name, r.a, r.cap, r.bytes, s⟩).map RF.c := by rw [List.map_set, e]; rfl
theorem upd_set {i : Nat} {r' : RF} {u : PF → PF} (hn : (rs.map (·.name)).Nodup) (hr : rs[i]? = some r) (e : r'.p = u r.p) (hrn : r.name = n) : (rs.set i r').map RF.p = updL (rs.map RF.p) n u := by
  obtain ⟨hi, rfl⟩ := List.getElem?_eq_some_iff.1 hr
  apply List.ext_getElem?
  intro k
  rw [updL, List.map_map, List.getElem?_map, List.getElem?_map, List.getElem?_set]
  by_cases hk : i = k
  · subst hk
    rw [if_pos rfl, if_pos hi, List.getElem?_eq_getElem hi]
    simp only [Option.map_some, Function.comp]
    rw [if_pos (show (RF.p rs[i]).name = n from hrn), e]
  · rw [if_neg hk]
    cases hg : rs[k]? with
    | none => rfl
    | some z =>
      simp only [Option.map_some, Function.comp]
      rw [if_neg]
      intro hz
      obtain ⟨hk2, rfl⟩ := List.getElem?_eq_some_iff.1 hg
      have := (List.getElem_inj (h₀ := by simpa using hi) (h₁ := by simpa using hk2) hn).1 (show (rs.map (·.name))[i]'(by simpa using hi) = (rs.map (·.name))[k]'(by simpa using hk2) by simp only [List.getElem_map]; rw [hrn]; exact hz.symm)
      exact hk this
theorem SortedL.upd {l : List PF} {u : PF → PF} (h : SortedL l) (hu : ∀ f, (u f).name = f.name) : SortedL (updL l n u) := by
  rw [SortedL, updL, List.pairwise_map]
  refine List.Pairwise.imp (fun {a b} hab => ?_) h
  have e : ∀ f : PF, (if f.name = n then u f else f).name = f.name := fun f => by split; exact hu f; rfl
  rw [e, e]; exact hab
theorem RefO.names (h : PLOk room (rs.map RF.p)) : (rs.map (·.name)).Nodup := by have := h.nodup; rwa [rf_names] at this
theorem noRP (h : ∀ r ∈ rs, r.name ≠ n) : ∀ f ∈ rs.map RF.p, f.name ≠ n := fun y hy => by obtain ⟨f, hf, rfl⟩ := List.mem_map.1 hy; exact h f hf
theorem hasR_no (h : ∀ r ∈ rs, r.name ≠ n) : hasL (rs.map RF.p) n = false := hasL_false (noRP h)
theorem hasR_in {i : Nat} (hr : rs[i]? = some r) (hn : r.name = n) : hasL (rs.map RF.p) n = true := hasL_iff.2 ⟨r.p, List.mem_map.2 ⟨r, List.mem_of_getElem? hr, rfl⟩, hn⟩
theorem lookR_in {i : Nat} (hok : PLOk room (rs.map RF.p)) (hr : rs[i]? = some r) (hn : r.name = n) : lookL (rs.map RF.p) n = some r.p := by subst hn; exact lookL_mem (f := r.p) hok.nodup (List.mem_map.2 ⟨r, List.mem_of_getElem? hr, rfl⟩)
theorem badRP (h : PLOk room (rs.map RF.p)) (hm : mayN n = false) : ∀ r ∈ rs, r.name ≠ n := fun f hf e => by
  have := h.may f.p (List.mem_map.2 ⟨f, hf, rfl⟩)
  rw [show f.p.name = n from e, hm] at this; cases this
theorem lookE_bad' {pl : List PF} (hm : mayN n = false) : lookE pl n = 6 := lookE_bad hm
theorem lookER_no (hm : mayN n = true) (h : ∀ r ∈ rs, r.name ≠ n) : lookE (rs.map RF.p) n = 20 := by rw [lookE, hm, hasR_no h]; rfl
theorem lookER_in {i : Nat} (hm : mayN n = true) (hr : rs[i]? = some r) (hn : r.name = n) : lookE (rs.map RF.p) n = 0 := by rw [lookE, hm, hasR_in hr hn]; rfl
theorem appR_in {i : Nat} {a : Option Addr} {c : Nat} (he : appE room (rs.map RF.p) n b = 0) (hn : (rs.map (·.name)).Nodup) (hr : rs[i]? = some r) (hrn : r.name = n) : (rs.set i ⟨r.name, a, c, r.bytes ++ b, r.synced⟩).map RF.p = appL room (rs.map RF.p) n b := by
  rw [appL, if_pos he, if_pos (hasR_in hr hrn)]; exact upd_set hn hr rfl hrn
theorem appR_new {i : Nat} {a : Option Addr} {c : Nat} (he : appE room (rs.map RF.p) n b = 0) (hno : ∀ r ∈ rs, r.name ≠ n) (hn : ((insR ⟨n, none, 0, [], 0⟩ rs).map (·.name)).Nodup) (hr : (insR ⟨n, none, 0, [], 0⟩ rs)[i]? = some r) (hrn : r.name = n) :
    (((insR ⟨n, none, 0, [], 0⟩ rs).set i ⟨r.name, a, c, r.bytes ++ b, r.synced⟩).map RF.p).Perm (appL room (rs.map RF.p) n b) := by
  rw [upd_set (u := fun f => { f with bytes := f.bytes ++ b }) hn hr rfl hrn]
  refine (updL_perm ((insR_perm _ rs).map RF.p) n _).trans ?_
  rw [appL, if_pos he, hasR_no hno]
  have := upd_no (u := fun f => { f with bytes := f.bytes ++ b }) (noRP hno)
  rw [updL] at this ⊢
  rw [List.map_append, List.map_append, this]
  simp [RF.p]
theorem ins_nodup (hn : (rs.map (·.name)).Nodup) (hno : ∀ r ∈ rs, r.name ≠ r0.name) : ((insR r0 rs).map (·.name)).Nodup := by
  refine ((insR_perm r0 rs).map _).nodup_iff.2 ?_
  rw [List.map_append, List.nodup_append]
  refine ⟨hn, by simp, ?_⟩
  intro y hy z hz
  obtain ⟨f, hf, rfl⟩ := List.mem_map.1 hy
  simp only [List.map_cons, List.map_nil, List.mem_singleton] at hz
  subst hz; exact hno f hf
theorem ins_has : ∃ r ∈ insR r0 rs, r.name = r0.name := ⟨r0, (insR_perm r0 rs).mem_iff.2 (by simp), rfl⟩
end



set_option maxRecDepth 100000 in
set_option maxHeartbeats 4000000 in
theorem putR (x : Nat) (al : Option Addr) (cl : Nat) (room : Int) (rs : List RF) (r0 : RF) (w : World) (hD : RefM w x al cl room rs) (hl : rs.length ≤ 65) (hz : BytesAt w [r0]) (hzb : ¬ bytesS [r0] x) (hzo : ∀ q, bytesS [r0] q → ¬ own al q) :
    Calls Try.prog 64 #[.pointer (some ⟨x, 0, none⟩), .agg #[.string (r0.name), .slice (r0.a) (r0.bytes.length) (r0.cap), .int .i64 (((r0.synced : Nat) : Int))]] w (Ret (fun v w' => v = .tuple #[] ∧ ∃ al' cl', RefM w' x al' cl' room (insR r0 rs) ∧ (∀ q, own al' q → w.heap.size ≤ q) ∧ Keeps (writeS x al) w w')) := by
  obtain ⟨hb, ho, hy, hox, hbx, hbo⟩ := hD
  have hml : (rs.map RF.c).length = rs.length := List.length_map ..
  refine calls_run (n := 55) Try.func64 rfl rfl rfl ?_
  refine Run.seq ?_
  refine Run.region ?_
  refine RL.st rfl <| St1.box (v := .agg #[.string (r0.name), .slice (r0.a) (r0.bytes.length) (r0.cap), .int .i64 (((r0.synced : Nat) : Int))]) rfl ?_
  intro b_1 w_2 hl_5 hb_4 K_3
  replace hb_4 : Blk w_2 b_1 [.string (r0.name), .slice (r0.a) (r0.bytes.length) (r0.cap), .int .i64 (((r0.synced : Nat) : Int))] 93 := hb_4
  have ne_6 : x < b_1 := Nat.lt_of_lt_of_le hb.lt hl_5
  have pr_7 : ¬ own al b_1 := fun h => absurd (ho.own_lt _ h) (by omega)
  have pr_8 : ¬ bytesS rs b_1 := fun h => absurd (hy.own_lt _ h) (by omega)
  have pr_9 : ¬ bytesS [r0] b_1 := fun h => absurd (hz.own_lt _ h) (by omega)
  have : w.heap.size ≤ b_1 := hl_5
  clear hl_5
  replace hb := hb.ext K_3
  replace ho := ho.ext K_3
  replace hy := hy.ext K_3
  replace hz := hz.ext K_3
  have K0 := (K_3 : Ext w _).to (S := (writeS x al))
  refine RL.nil ?_
  refine Run.seq ?_
  refine Run.region ?_
  refine RL.val (x_assignSl rfl) ?_
  refine RL.nil ?_
  refine Run.seq ?_
  refine Run.region ?_
  refine RL.val (x_assignB rfl) ?_
  refine RL.nil ?_
  refine Run.seq ?_
  refine Run.seq ?_
  refine Run.region ?_
  refine RL.val (x_assignI rfl) ?_
  refine RL.nil ?_
  refine Run.block ?_
  refine Run.loop (ι := Nat) (fun i ρ' w' => ∃ out : List RF, ∃ dn : Bool, ∃ ao : Option Addr, ∃ co : Nat, Holds ρ' [(0, .pointer (some ⟨x, 0, none⟩)), (3, .pointer (some ⟨b_1, 0, none⟩)), (4, .slice (ao) ((out.map RF.c).length) (co)), (5, .bool (dn)), (6, .int .i64 (((i : Nat) : Int)))] ∧ Keeps (writeS x al) w w' ∧ (Blk w' x [.int .i64 (room), .slice (al) ((rs.map RF.c).length) (cl)] 89) ∧ (Blk w' b_1 [.string (r0.name), .slice (r0.a) (r0.bytes.length) (r0.cap), .int .i64 (((r0.synced : Nat) : Int))] 93) ∧ (OwnSl w' 93 (al) (cl) (rs.map RF.c)) ∧ (BytesAt w' rs) ∧ (BytesAt w' [r0]) ∧ (OwnSl w' 93 ao co (out.map RF.c)) ∧ (¬ own ao x) ∧ (¬ own ao b_1) ∧ (∀ q_, own ao q_ → ¬ own al q_) ∧ (∀ q_, own ao q_ → ¬ bytesS rs q_) ∧ (∀ q_, own ao q_ → ¬ bytesS [r0] q_) ∧ (∀ q_, own ao q_ → q_ < w.heap.size → (writeS x al) q_) ∧ (∀ q_, own ao q_ → w.heap.size ≤ q_) ∧ (i ≤ rs.length) ∧ (InsI r0 rs i out dn)) (fun i => rs.length - i) 0 ?_ ?_
  · have ho_20 := OwnSl.nil (α := FileC) w_2 93
    refine ⟨[], false, _, _, ⟨rfl, rfl, rfl, rfl, rfl, trivial⟩, K0, hb, hb_4, ho, hy, hz, ho_20, (own_none x), (own_none b_1), (fun q_ h1 _ => own_none q_ h1), (fun q_ h1 _ => own_none q_ h1), (fun q_ h1 _ => own_none q_ h1), (fun q_ h1 _ => absurd h1 (own_none q_)), (fun q_ h1 => absurd h1 (own_none q_)), ?_, ?_⟩
    · omega
    · exact InsI.zero _ _
  clear hb ho hy hz hb_4
  clear K0
  rintro i ρ_21 w_10 ⟨out, dn, ao, co, hH_11, K0, hb, hb_4, ho, hy, hz, ho_12, pr_13, pr_14, pr_15, pr_16, pr_17, pr_18, pr_19, hi, hins⟩ ih1
  obtain ⟨ρ₀, rfl⟩ := hH_11.ex
  clear hH_11
  refine Run.seq ?_
  refine Run.seq ?_
  refine Run.region ?_
  refine RL.val (x_moveI rfl) ?_
  refine RL.val (x_moveP rfl) ?_
  refine RL.val (x_nilCheck rfl) ?_
  refine RL.val (x_fld (o' := 1) Try.underlying89 rfl ty87 rfl rfl rfl) ?_
  refine RL.val (x_ld (v := .slice (al) ((rs.map RF.c).length) (cl)) ty87 rfl rfl (hb.cl.field (i := 1) rfl)) ?_
  refine RL.val (x_lenSl Try.underlying87 rfl) ?_
  refine RL.val (x_ltI rfl rfl) ?_
  refine RL.nil ?_
  refine Run.cond rfl (fun hc13 => ?_) (fun hc13 => ?_)
  · try simp only [br] at hc13
    refine Run.skip ?_
    refine Run.seq ?_
    refine Run.block ?_
    refine Run.seq ?_
    refine Run.seq ?_
    obtain ⟨b_22, o_23, y, hx, ha_24, hc_25⟩ := ho.sl.el (i := i) (by omega)
    obtain ⟨r, hr, hxr⟩ := rf_get hx
    have hn_r : y.name = r.name := by rw [hxr]; rfl
    refine Run.draw' (m := 15) (by kernel_rfl) rfl ?_
    intro w_28 K_29
    replace hb := hb.ext K_29
    replace hb_4 := hb_4.ext K_29
    replace ho := ho.ext K_29
    replace hy := hy.ext K_29
    replace hz := hz.ext K_29
    replace ho_12 := ho_12.ext K_29
    replace hc_25 := hc_25.ext K_29
    replace K0 := K0.ext K_29
    refine RA.take (v := .bool (dn)) 0 rfl (by kernel_rfl) rfl (by rintro _ rfl; exact (x_moveB rfl)) ?_
    refine RA.take (v := .bool (!dn)) 1 rfl (by kernel_rfl) rfl (by rintro _ rfl; exact (x_not rfl)) ?_
    refine RA.take (v := .bool (!dn)) 2 rfl (by kernel_rfl) rfl (by rintro _ rfl; exact (x_moveB rfl)) ?_
    refine RA.gtake (v := .pointer (some ⟨b_1, 0, none⟩)) 3 rfl (by kernel_rfl) rfl (wantedT rfl rfl rfl rfl) (fun hg => by rintro _ rfl; exact (x_fld (o' := 0) Try.underlying93 rfl ty9 rfl rfl rfl)) ?_
    refine RA.gtake (v := .string (r0.name)) 4 rfl (by kernel_rfl) rfl (wantedT rfl rfl rfl rfl) (fun hg => by rintro _ rfl; exact (x_ld (v := .string (r0.name)) ty9 (gvr hg) rfl (hb_4.cl.field (i := 0) rfl))) ?_
    refine RA.gtake (v := .pointer (some ⟨x, 0, none⟩)) 5 rfl (by kernel_rfl) rfl (wantedT rfl rfl rfl rfl) (fun hg => by rintro _ rfl; exact (x_moveP rfl)) ?_
    refine RA.gtake (v := .pointer (some ⟨x, 0, none⟩)) 6 rfl (by kernel_rfl) rfl (wantedT rfl rfl rfl rfl) (fun hg => by rintro _ rfl; exact (x_nilCheck (gvr hg))) ?_
    refine RA.gtake (v := .pointer (some ⟨x, 1, none⟩)) 7 rfl (by kernel_rfl) rfl (wantedT rfl rfl rfl rfl) (fun hg => by rintro _ rfl; exact (x_fld (o' := 1) Try.underlying89 rfl ty87 rfl (gvr hg) rfl)) ?_
    refine RA.gtake (v := .slice (al) ((rs.map RF.c).length) (cl)) 8 rfl (by kernel_rfl) rfl (wantedT rfl rfl rfl rfl) (fun hg => by rintro _ rfl; exact (x_ld (v := .slice (al) ((rs.map RF.c).length) (cl)) ty87 (gvr hg) rfl (hb.cl.field (i := 1) rfl))) ?_
    refine RA.gtake (v := .int .i64 (((i : Nat) : Int))) 9 rfl (by kernel_rfl) rfl (wantedT rfl rfl rfl rfl) (fun hg => by rintro _ rfl; exact (x_moveI rfl)) ?_
    refine RA.gtake (v := .pointer (some ⟨b_22, o_23 + i * 3, none⟩)) 10 rfl (by kernel_rfl) rfl (wantedT rfl rfl rfl rfl) (fun hg => by rintro _ rfl; exact (x_idxN Try.underlying87 ty93 (gvr hg) (gvr hg) ha_24 (by first | omega | (simp only [List.length_set]; omega)))) ?_
    refine RA.gtake (v := .pointer (some ⟨b_22, o_23 + i * 3 + 0, none⟩)) 11 rfl (by kernel_rfl) rfl (wantedT rfl rfl rfl rfl) (fun hg => by rintro _ rfl; exact (x_fld (o' := o_23 + i * 3 + 0) Try.underlying93 rfl ty9 rfl (gvr hg) rfl)) ?_
    refine RA.gtake (v := .string ((y).name)) 12 rfl (by kernel_rfl) rfl (wantedT rfl rfl rfl rfl) (fun hg => by rintro _ rfl; exact (x_ld ty9 (gvr hg) rfl (hc_25.field (i := 0) rfl))) ?_
    refine RA.gtake (v := .bool (decide (r0.name.data.toList < ((y).name).data.toList))) 13 rfl (by kernel_rfl) rfl (wantedT rfl rfl rfl rfl) (fun hg => by rintro _ rfl; exact (x_ltS (gvr hg) (gvr hg))) ?_
    refine RA.take (v := .bool ((!dn) && (decide (r0.name.data.toList < ((y).name).data.toList)))) 14 rfl (by kernel_rfl) rfl (by rintro _ rfl; exact (x_and rfl rfl rfl)) ?_
    refine RA.done (by kernel_rfl) ?_
    refine Run.cond rfl (fun hc30 => ?_) (fun hc30 => ?_)
    · try simp only [br] at hc30
      have hins' := hins.in hr hc30.1 (by rw [← hn_r]; exact hc30.2)
      refine Run.seq ?_
      refine Run.region ?_
      refine RL.val (x_moveSl rfl) ?_
      refine RL.val (x_lds (cs := #[.string (r0.name), .slice (r0.a) (r0.bytes.length) (r0.cap), .int .i64 (((r0.synced : Nat) : Int))]) ty93 rfl rfl (hb_4.cl.drop 0 3)) ?_
      refine RL.st rfl <| St1.buildSlice ([(⟨r0.name, ⟨r0.a, r0.bytes.length, r0.cap⟩, ((r0.synced : Nat) : Int)⟩ : FileC)] : List FileC) Try.underlying87 ty93 rfl rfl (by first | decide | (simp [Enc.size])) ?_
      intro b_30 w_31 hl_34 ho_33 K_32
      have pr_35 : ¬ own (some ⟨b_30, 0, none⟩) x := notNew (ge_new hl_34) hb.lt
      have pr_36 : ¬ own (some ⟨b_30, 0, none⟩) b_1 := notNew (ge_new hl_34) hb_4.lt
      have pr_37 : ∀ q_, own (some ⟨b_30, 0, none⟩) q_ → ¬ own al q_ := apartNew (ge_new hl_34) ho.own_lt
      have pr_38 : ∀ q_, own (some ⟨b_30, 0, none⟩) q_ → ¬ bytesS rs q_ := apartNew (ge_new hl_34) hy.own_lt
      have pr_39 : ∀ q_, own (some ⟨b_30, 0, none⟩) q_ → ¬ bytesS [r0] q_ := apartNew (ge_new hl_34) hz.own_lt
      have pr_40 : ∀ q_, own (some ⟨b_30, 0, none⟩) q_ → ¬ own ao q_ := apartNew (ge_new hl_34) ho_12.own_lt
      have pg_41 : ∀ q_, own (some ⟨b_30, 0, none⟩) q_ → q_ < w.heap.size → (writeS x al) q_ := fun q_ h hlt => absurd (Nat.le_trans K0.size ((ge_new hl_34) q_ h)) (by omega)
      have pw_42 : ∀ q_, own (some ⟨b_30, 0, none⟩) q_ → w.heap.size ≤ q_ := fun q_ h => Nat.le_trans K0.size ((ge_new hl_34) q_ h)
      clear hl_34
      replace hb := hb.ext K_32
      replace hb_4 := hb_4.ext K_32
      replace ho := ho.ext K_32
      replace hy := hy.ext K_32
      replace hz := hz.ext K_32
      replace ho_12 := ho_12.ext K_32
      replace K0 := K0.ext K_32
      refine RL.st rfl <| St1.append (xs := out.map RF.c) (ys := ([(⟨r0.name, ⟨r0.a, r0.bytes.length, r0.cap⟩, ((r0.synced : Nat) : Int)⟩ : FileC)] : List FileC)) Try.underlying87 ty93 rfl rfl rfl ho_12 ho_33.sl (by have := hins.len; rw [List.length_map]; simp only [lr]; omega) (by decide) ?_
      intro a_43 c_44 w_45 ho_46 K_47 hm_48 hrm_49
      have pr_50 : ¬ own a_43 x := hm_48.not pr_13 hb.lt
      have pr_51 : ¬ own a_43 b_1 := hm_48.not pr_14 hb_4.lt
      have pr_52 : ∀ q_, own a_43 q_ → ¬ own al q_ := hm_48.apart pr_15 ho.own_lt
      have pr_53 : ∀ q_, own a_43 q_ → ¬ bytesS rs q_ := hm_48.apart pr_16 hy.own_lt
      have pr_54 : ∀ q_, own a_43 q_ → ¬ bytesS [r0] q_ := hm_48.apart pr_17 hz.own_lt
      have pr_55 : ∀ q_, own a_43 q_ → ¬ own (some ⟨b_30, 0, none⟩) q_ := hm_48.apart (fun q_ h1 h2 => pr_40 q_ h2 h1) ho_33.own_lt
      have pg_56 : ∀ q_, own a_43 q_ → q_ < w.heap.size → (writeS x al) q_ := hm_48.inS pr_18 K0.size
      have pw_57 : ∀ q_, own a_43 q_ → w.heap.size ≤ q_ := hm_48.ge pr_19 K0.size
      replace hb := hb.keep K_47 pr_13
      replace hb_4 := hb_4.keep K_47 pr_14
      replace ho := ho.keepO K_47 (fun q_ h1 h2 => pr_15 q_ h2 h1)
      replace hy := hy.keepO K_47 (fun q_ h1 h2 => pr_16 q_ h2 h1)
      replace hz := hz.keepO K_47 (fun q_ h1 h2 => pr_17 q_ h2 h1)
      replace ho_33 := ho_33.keepO K_47 pr_40
      replace K0 := K0.trans K_47 (fun x hlt hx => pr_18 x hx hlt)
      clear hm_48
      clear hrm_49
      refine RL.val (x_assignSl rfl) ?_
      refine RL.nil ?_
      rw [rc_snoc] at ho_46 ⊢
      refine Run.region ?_
      refine RL.val (x_assignB rfl) ?_
      refine RL.nil ?_
      refine Run.region ?_
      refine RL.val (x_moveSl rfl) ?_
      refine RL.val (x_moveP rfl) ?_
      refine RL.val (x_nilCheck rfl) ?_
      refine RL.val (x_fld (o' := 1) Try.underlying89 rfl ty87 rfl rfl rfl) ?_
      refine RL.val (x_ld (v := .slice (al) ((rs.map RF.c).length) (cl)) ty87 rfl rfl (hb.cl.field (i := 1) rfl)) ?_
      refine RL.val (x_moveI rfl) ?_
      obtain ⟨b_58, o_59, y2, hx2, ha_60, hc_61⟩ := ho.sl.el (i := i) (by first | omega | (simp only [List.length_set]; omega))
      obtain rfl : y = y2 := Option.some.inj (hx.symm.trans hx2)
      refine RL.val (x_idxN Try.underlying87 ty93 rfl rfl ha_60 (by first | omega | (simp only [List.length_set]; omega))) ?_
      refine RL.val (x_ldV (v := .agg #[.string ((y).name), .slice ((y).b.a) ((y).b.len) ((y).b.cap), .int .i64 ((y).synced)]) (y := y) ty93 rfl hc_61 rfl) ?_
      refine RL.st rfl <| St1.buildSlice ([y] : List FileC) Try.underlying87 ty93 rfl rfl (by first | decide | (simp [Enc.size])) ?_
      intro b_64 w_65 hl_68 ho_67 K_66
      have pr_69 : ¬ own (some ⟨b_64, 0, none⟩) x := notNew (ge_new hl_68) hb.lt
      have pr_70 : ¬ own (some ⟨b_64, 0, none⟩) b_1 := notNew (ge_new hl_68) hb_4.lt
      have pr_71 : ∀ q_, own (some ⟨b_64, 0, none⟩) q_ → ¬ own al q_ := apartNew (ge_new hl_68) ho.own_lt
      have pr_72 : ∀ q_, own (some ⟨b_64, 0, none⟩) q_ → ¬ bytesS rs q_ := apartNew (ge_new hl_68) hy.own_lt
      have pr_73 : ∀ q_, own (some ⟨b_64, 0, none⟩) q_ → ¬ bytesS [r0] q_ := apartNew (ge_new hl_68) hz.own_lt
      have pr_74 : ∀ q_, own (some ⟨b_64, 0, none⟩) q_ → ¬ own (some ⟨b_30, 0, none⟩) q_ := apartNew (ge_new hl_68) ho_33.own_lt
      have pr_75 : ∀ q_, own (some ⟨b_64, 0, none⟩) q_ → ¬ own a_43 q_ := apartNew (ge_new hl_68) ho_46.own_lt
      have pg_76 : ∀ q_, own (some ⟨b_64, 0, none⟩) q_ → q_ < w.heap.size → (writeS x al) q_ := fun q_ h hlt => absurd (Nat.le_trans K0.size ((ge_new hl_68) q_ h)) (by omega)
      have pw_77 : ∀ q_, own (some ⟨b_64, 0, none⟩) q_ → w.heap.size ≤ q_ := fun q_ h => Nat.le_trans K0.size ((ge_new hl_68) q_ h)
      clear hl_68
      replace hb := hb.ext K_66
      replace hb_4 := hb_4.ext K_66
      replace ho := ho.ext K_66
      replace hy := hy.ext K_66
      replace hz := hz.ext K_66
      replace ho_33 := ho_33.ext K_66
      replace ho_46 := ho_46.ext K_66
      replace hc_61 := hc_61.ext K_66
      replace K0 := K0.ext K_66
      refine RL.st rfl <| St1.append (xs := (out ++ [r0]).map RF.c) (ys := ([y] : List FileC)) Try.underlying87 ty93 rfl rfl rfl ho_46 ho_67.sl (by have := hins.len; rw [List.length_map]; simp only [lr]; omega) (by decide) ?_
      intro a_78 c_79 w_80 ho_81 K_82 hm_83 hrm_84
      have pr_85 : ¬ own a_78 x := hm_83.not pr_50 hb.lt
      have pr_86 : ¬ own a_78 b_1 := hm_83.not pr_51 hb_4.lt
      have pr_87 : ∀ q_, own a_78 q_ → ¬ own al q_ := hm_83.apart pr_52 ho.own_lt
      have pr_88 : ∀ q_, own a_78 q_ → ¬ bytesS rs q_ := hm_83.apart pr_53 hy.own_lt
      have pr_89 : ∀ q_, own a_78 q_ → ¬ bytesS [r0] q_ := hm_83.apart pr_54 hz.own_lt
      have pr_90 : ∀ q_, own a_78 q_ → ¬ own (some ⟨b_30, 0, none⟩) q_ := hm_83.apart pr_55 ho_33.own_lt
      have pr_91 : ∀ q_, own a_78 q_ → ¬ own (some ⟨b_64, 0, none⟩) q_ := hm_83.apart (fun q_ h1 h2 => pr_75 q_ h2 h1) ho_67.own_lt
      have pg_92 : ∀ q_, own a_78 q_ → q_ < w.heap.size → (writeS x al) q_ := hm_83.inS pg_56 K0.size
      have pw_93 : ∀ q_, own a_78 q_ → w.heap.size ≤ q_ := hm_83.ge pw_57 K0.size
      replace hb := hb.keep K_82 pr_50
      replace hb_4 := hb_4.keep K_82 pr_51
      replace ho := ho.keepO K_82 (fun q_ h1 h2 => pr_52 q_ h2 h1)
      replace hy := hy.keepO K_82 (fun q_ h1 h2 => pr_53 q_ h2 h1)
      replace hz := hz.keepO K_82 (fun q_ h1 h2 => pr_54 q_ h2 h1)
      replace ho_33 := ho_33.keepO K_82 (fun q_ h1 h2 => pr_55 q_ h2 h1)
      replace hc_61 := hc_61.keep K_82 (fun h => (fun q_ h1 h2 => pr_52 q_ h2 h1) _ ((own_sub _) _ ha_60) h)
      replace ho_67 := ho_67.keepO K_82 pr_75
      replace K0 := K0.trans K_82 (fun x hlt hx => pg_56 x hx hlt)
      clear hm_83
      clear hrm_84
      refine RL.val (x_assignSl rfl) ?_
      refine RL.nil ?_
      rw [rc_snoc' hxr] at ho_81 ⊢
      refine Run.inBlock ?_
      refine Run.region ?_
      refine RL.val (x_moveI rfl) ?_
      refine RL.val (litI (c := ((i + 1 : Nat) : Int)) (x_add rfl rfl (by omega) (by omega)) rfl) ?_
      refine RL.val (x_assignI rfl) ?_
      refine RL.nil ?_
      refine ih1 (i + 1) _ _ ?_ (by omega)
      refine ⟨out ++ [r0] ++ [r], true, _, _, ⟨rfl, rfl, rfl, rfl, rfl, trivial⟩, K0, hb, hb_4, ho, hy, hz, ho_81, pr_85, pr_86, pr_87, pr_88, pr_89, pg_92, pw_93, ?_, ?_⟩
      · omega
      · exact hins'
    · try simp only [br] at hc30
      have hins' := hins.on hr (by rw [← hn_r]; exact hc30)
      refine Run.skip ?_
      refine Run.region ?_
      refine RL.val (x_moveSl rfl) ?_
      refine RL.val (x_moveP rfl) ?_
      refine RL.val (x_nilCheck rfl) ?_
      refine RL.val (x_fld (o' := 1) Try.underlying89 rfl ty87 rfl rfl rfl) ?_
      refine RL.val (x_ld (v := .slice (al) ((rs.map RF.c).length) (cl)) ty87 rfl rfl (hb.cl.field (i := 1) rfl)) ?_
      refine RL.val (x_moveI rfl) ?_
      obtain ⟨b_94, o_95, y2, hx2, ha_96, hc_97⟩ := ho.sl.el (i := i) (by first | omega | (simp only [List.length_set]; omega))
      obtain rfl : y = y2 := Option.some.inj (hx.symm.trans hx2)
      refine RL.val (x_idxN Try.underlying87 ty93 rfl rfl ha_96 (by first | omega | (simp only [List.length_set]; omega))) ?_
      refine RL.val (x_ldV (v := .agg #[.string ((y).name), .slice ((y).b.a) ((y).b.len) ((y).b.cap), .int .i64 ((y).synced)]) (y := y) ty93 rfl hc_97 rfl) ?_
      refine RL.st rfl <| St1.buildSlice ([y] : List FileC) Try.underlying87 ty93 rfl rfl (by first | decide | (simp [Enc.size])) ?_
      intro b_100 w_101 hl_104 ho_103 K_102
      have pr_105 : ¬ own (some ⟨b_100, 0, none⟩) x := notNew (ge_new hl_104) hb.lt
      have pr_106 : ¬ own (some ⟨b_100, 0, none⟩) b_1 := notNew (ge_new hl_104) hb_4.lt
      have pr_107 : ∀ q_, own (some ⟨b_100, 0, none⟩) q_ → ¬ own al q_ := apartNew (ge_new hl_104) ho.own_lt
      have pr_108 : ∀ q_, own (some ⟨b_100, 0, none⟩) q_ → ¬ bytesS rs q_ := apartNew (ge_new hl_104) hy.own_lt
      have pr_109 : ∀ q_, own (some ⟨b_100, 0, none⟩) q_ → ¬ bytesS [r0] q_ := apartNew (ge_new hl_104) hz.own_lt
      have pr_110 : ∀ q_, own (some ⟨b_100, 0, none⟩) q_ → ¬ own ao q_ := apartNew (ge_new hl_104) ho_12.own_lt
      have pg_111 : ∀ q_, own (some ⟨b_100, 0, none⟩) q_ → q_ < w.heap.size → (writeS x al) q_ := fun q_ h hlt => absurd (Nat.le_trans K0.size ((ge_new hl_104) q_ h)) (by omega)
      have pw_112 : ∀ q_, own (some ⟨b_100, 0, none⟩) q_ → w.heap.size ≤ q_ := fun q_ h => Nat.le_trans K0.size ((ge_new hl_104) q_ h)
      clear hl_104
      replace hb := hb.ext K_102
      replace hb_4 := hb_4.ext K_102
      replace ho := ho.ext K_102
      replace hy := hy.ext K_102
      replace hz := hz.ext K_102
      replace ho_12 := ho_12.ext K_102
      replace hc_97 := hc_97.ext K_102
      replace K0 := K0.ext K_102
      refine RL.st rfl <| St1.append (xs := out.map RF.c) (ys := ([y] : List FileC)) Try.underlying87 ty93 rfl rfl rfl ho_12 ho_103.sl (by have := hins.len; rw [List.length_map]; simp only [lr]; omega) (by decide) ?_
      intro a_113 c_114 w_115 ho_116 K_117 hm_118 hrm_119
      have pr_120 : ¬ own a_113 x := hm_118.not pr_13 hb.lt
      have pr_121 : ¬ own a_113 b_1 := hm_118.not pr_14 hb_4.lt
      have pr_122 : ∀ q_, own a_113 q_ → ¬ own al q_ := hm_118.apart pr_15 ho.own_lt
      have pr_123 : ∀ q_, own a_113 q_ → ¬ bytesS rs q_ := hm_118.apart pr_16 hy.own_lt
      have pr_124 : ∀ q_, own a_113 q_ → ¬ bytesS [r0] q_ := hm_118.apart pr_17 hz.own_lt
      have pr_125 : ∀ q_, own a_113 q_ → ¬ own (some ⟨b_100, 0, none⟩) q_ := hm_118.apart (fun q_ h1 h2 => pr_110 q_ h2 h1) ho_103.own_lt
      have pg_126 : ∀ q_, own a_113 q_ → q_ < w.heap.size → (writeS x al) q_ := hm_118.inS pr_18 K0.size
      have pw_127 : ∀ q_, own a_113 q_ → w.heap.size ≤ q_ := hm_118.ge pr_19 K0.size
      replace hb := hb.keep K_117 pr_13
      replace hb_4 := hb_4.keep K_117 pr_14
      replace ho := ho.keepO K_117 (fun q_ h1 h2 => pr_15 q_ h2 h1)
      replace hy := hy.keepO K_117 (fun q_ h1 h2 => pr_16 q_ h2 h1)
      replace hz := hz.keepO K_117 (fun q_ h1 h2 => pr_17 q_ h2 h1)
      replace hc_97 := hc_97.keep K_117 (fun h => (fun q_ h1 h2 => pr_15 q_ h2 h1) _ ((own_sub _) _ ha_96) h)
      replace ho_103 := ho_103.keepO K_117 pr_110
      replace K0 := K0.trans K_117 (fun x hlt hx => pr_18 x hx hlt)
      clear hm_118
      clear hrm_119
      refine RL.val (x_assignSl rfl) ?_
      refine RL.nil ?_
      rw [rc_snoc' hxr] at ho_116 ⊢
      refine Run.inBlock ?_
      refine Run.region ?_
      refine RL.val (x_moveI rfl) ?_
      refine RL.val (litI (c := ((i + 1 : Nat) : Int)) (x_add rfl rfl (by omega) (by omega)) rfl) ?_
      refine RL.val (x_assignI rfl) ?_
      refine RL.nil ?_
      refine ih1 (i + 1) _ _ ?_ (by omega)
      refine ⟨out ++ [r], dn, _, _, ⟨rfl, rfl, rfl, rfl, rfl, trivial⟩, K0, hb, hb_4, ho, hy, hz, ho_116, pr_120, pr_121, pr_122, pr_123, pr_124, pg_126, pw_127, ?_, ?_⟩
      · omega
      · exact hins'
  · try simp only [br] at hc13
    refine Run.exit rfl ?_
    refine Run.seq ?_
    refine Run.seq ?_
    refine Run.region ?_
    refine RL.val (x_moveB rfl) ?_
    refine RL.val (x_not rfl) ?_
    refine RL.nil ?_
    refine Run.cond rfl (fun hc46 => ?_) (fun hc46 => ?_)
    · try simp only [br] at hc46
      have hil : i = rs.length := by omega
      rw [hil, hc46] at hins
      have hie := hins.end0
      refine Run.region ?_
      refine RL.val (x_moveSl rfl) ?_
      refine RL.val (x_lds (cs := #[.string (r0.name), .slice (r0.a) (r0.bytes.length) (r0.cap), .int .i64 (((r0.synced : Nat) : Int))]) ty93 rfl rfl (hb_4.cl.drop 0 3)) ?_
      refine RL.st rfl <| St1.buildSlice ([(⟨r0.name, ⟨r0.a, r0.bytes.length, r0.cap⟩, ((r0.synced : Nat) : Int)⟩ : FileC)] : List FileC) Try.underlying87 ty93 rfl rfl (by first | decide | (simp [Enc.size])) ?_
      intro b_128 w_129 hl_132 ho_131 K_130
      have pr_133 : ¬ own (some ⟨b_128, 0, none⟩) x := notNew (ge_new hl_132) hb.lt
      have pr_134 : ¬ own (some ⟨b_128, 0, none⟩) b_1 := notNew (ge_new hl_132) hb_4.lt
      have pr_135 : ∀ q_, own (some ⟨b_128, 0, none⟩) q_ → ¬ own al q_ := apartNew (ge_new hl_132) ho.own_lt
      have pr_136 : ∀ q_, own (some ⟨b_128, 0, none⟩) q_ → ¬ bytesS rs q_ := apartNew (ge_new hl_132) hy.own_lt
      have pr_137 : ∀ q_, own (some ⟨b_128, 0, none⟩) q_ → ¬ bytesS [r0] q_ := apartNew (ge_new hl_132) hz.own_lt
      have pr_138 : ∀ q_, own (some ⟨b_128, 0, none⟩) q_ → ¬ own ao q_ := apartNew (ge_new hl_132) ho_12.own_lt
      have pg_139 : ∀ q_, own (some ⟨b_128, 0, none⟩) q_ → q_ < w.heap.size → (writeS x al) q_ := fun q_ h hlt => absurd (Nat.le_trans K0.size ((ge_new hl_132) q_ h)) (by omega)
      have pw_140 : ∀ q_, own (some ⟨b_128, 0, none⟩) q_ → w.heap.size ≤ q_ := fun q_ h => Nat.le_trans K0.size ((ge_new hl_132) q_ h)
      clear hl_132
      replace hb := hb.ext K_130
      replace hb_4 := hb_4.ext K_130
      replace ho := ho.ext K_130
      replace hy := hy.ext K_130
      replace hz := hz.ext K_130
      replace ho_12 := ho_12.ext K_130
      replace K0 := K0.ext K_130
      refine RL.st rfl <| St1.append (xs := out.map RF.c) (ys := ([(⟨r0.name, ⟨r0.a, r0.bytes.length, r0.cap⟩, ((r0.synced : Nat) : Int)⟩ : FileC)] : List FileC)) Try.underlying87 ty93 rfl rfl rfl ho_12 ho_131.sl (by have := hins.len; rw [List.length_map]; simp only [lr]; omega) (by decide) ?_
      intro a_141 c_142 w_143 ho_144 K_145 hm_146 hrm_147
      have pr_148 : ¬ own a_141 x := hm_146.not pr_13 hb.lt
      have pr_149 : ¬ own a_141 b_1 := hm_146.not pr_14 hb_4.lt
      have pr_150 : ∀ q_, own a_141 q_ → ¬ own al q_ := hm_146.apart pr_15 ho.own_lt
      have pr_151 : ∀ q_, own a_141 q_ → ¬ bytesS rs q_ := hm_146.apart pr_16 hy.own_lt
      have pr_152 : ∀ q_, own a_141 q_ → ¬ bytesS [r0] q_ := hm_146.apart pr_17 hz.own_lt
      have pr_153 : ∀ q_, own a_141 q_ → ¬ own (some ⟨b_128, 0, none⟩) q_ := hm_146.apart (fun q_ h1 h2 => pr_138 q_ h2 h1) ho_131.own_lt
      have pg_154 : ∀ q_, own a_141 q_ → q_ < w.heap.size → (writeS x al) q_ := hm_146.inS pr_18 K0.size
      have pw_155 : ∀ q_, own a_141 q_ → w.heap.size ≤ q_ := hm_146.ge pr_19 K0.size
      replace hb := hb.keep K_145 pr_13
      replace hb_4 := hb_4.keep K_145 pr_14
      replace ho := ho.keepO K_145 (fun q_ h1 h2 => pr_15 q_ h2 h1)
      replace hy := hy.keepO K_145 (fun q_ h1 h2 => pr_16 q_ h2 h1)
      replace hz := hz.keepO K_145 (fun q_ h1 h2 => pr_17 q_ h2 h1)
      replace ho_131 := ho_131.keepO K_145 pr_138
      replace K0 := K0.trans K_145 (fun x hlt hx => pr_18 x hx hlt)
      clear hm_146
      clear hrm_147
      refine RL.val (x_assignSl rfl) ?_
      refine RL.nil ?_
      rw [rc_snoc, hie] at ho_144 ⊢
      refine Run.region ?_
      refine RL.val (x_moveP rfl) ?_
      refine RL.val (x_moveSl rfl) ?_
      refine RL.val (x_nilCheck rfl) ?_
      refine RL.val (x_fld (o' := 1) Try.underlying89 rfl ty87 rfl rfl rfl) ?_
      refine RL.st rfl <| St1.store (v := .slice (a_141) (((insR r0 rs).map RF.c).length) (c_142)) ty87 rfl rfl rfl (by simp [Value.cells, Value.oneCell']) hb (by simp) ?_
      intro w_156 hb_ K_157
      have hb' : Blk w_156 x [.int .i64 (room), .slice (a_141) (((insR r0 rs).map RF.c).length) (c_142)] 89 := hb_
      clear hb_
      replace hb_4 := hb_4.keep K_157 (by simp only [one]; omega)
      replace ho := ho.keepO K_157 (fun q_ hq_ eq_ => hox (by simp only [one] at eq_; rw [← eq_]; exact hq_))
      replace hy := hy.keepO K_157 (fun q_ hq_ eq_ => hbx (by simp only [one] at eq_; rw [← eq_]; exact hq_))
      replace hz := hz.keepO K_157 (fun q_ hq_ eq_ => hzb (by simp only [one] at eq_; rw [← eq_]; exact hq_))
      replace ho_131 := ho_131.keepO K_157 (fun q_ hq_ eq_ => pr_133 (by simp only [one] at eq_; rw [← eq_]; exact hq_))
      replace ho_144 := ho_144.keepO K_157 (fun q_ hq_ eq_ => pr_148 (by simp only [one] at eq_; rw [← eq_]; exact hq_))
      replace K0 := K0.trans K_157 (fun x _ hx => by simp only [one] at hx; subst hx; exact (Or.inl rfl))
      replace hb := hb'
      clear hb'
      refine RL.nil ?_
      refine Run.fin0 Try.func64 rfl ?_
      exact ⟨_, rfl, rfl, a_141, c_142, ⟨hb, ho_144, hy.ins hz, pr_148, fun h_ => (bytesS_ins _ h_).elim hzb hbx, fun q_ h1 h2 => (bytesS_ins q_ h1).elim (fun h_ => (fun q_ h1 h2 => pr_152 q_ h2 h1) q_ h_ h2) (fun h_ => (fun q_ h1 h2 => pr_151 q_ h2 h1) q_ h_ h2)⟩, pw_155, K0⟩
    · try simp only [br] at hc46
      have hil : i = rs.length := by omega
      rw [hil, hc46] at hins
      have hie := hins.end1
      refine Run.skip ?_
      rw [hie] at ho_12 ⊢
      refine Run.region ?_
      refine RL.val (x_moveP rfl) ?_
      refine RL.val (x_moveSl rfl) ?_
      refine RL.val (x_nilCheck rfl) ?_
      refine RL.val (x_fld (o' := 1) Try.underlying89 rfl ty87 rfl rfl rfl) ?_
      refine RL.st rfl <| St1.store (v := .slice (ao) (((insR r0 rs).map RF.c).length) (co)) ty87 rfl rfl rfl (by simp [Value.cells, Value.oneCell']) hb (by simp) ?_
      intro w_158 hb_ K_159
      have hb' : Blk w_158 x [.int .i64 (room), .slice (ao) (((insR r0 rs).map RF.c).length) (co)] 89 := hb_
      clear hb_
      replace hb_4 := hb_4.keep K_159 (by simp only [one]; omega)
      replace ho := ho.keepO K_159 (fun q_ hq_ eq_ => hox (by simp only [one] at eq_; rw [← eq_]; exact hq_))
      replace hy := hy.keepO K_159 (fun q_ hq_ eq_ => hbx (by simp only [one] at eq_; rw [← eq_]; exact hq_))
      replace hz := hz.keepO K_159 (fun q_ hq_ eq_ => hzb (by simp only [one] at eq_; rw [← eq_]; exact hq_))
      replace ho_12 := ho_12.keepO K_159 (fun q_ hq_ eq_ => pr_13 (by simp only [one] at eq_; rw [← eq_]; exact hq_))
      replace K0 := K0.trans K_159 (fun x _ hx => by simp only [one] at hx; subst hx; exact (Or.inl rfl))
      replace hb := hb'
      clear hb'
      refine RL.nil ?_
      refine Run.fin0 Try.func64 rfl ?_
      exact ⟨_, rfl, rfl, ao, co, ⟨hb, ho_12, hy.ins hz, pr_13, fun h_ => (bytesS_ins _ h_).elim hzb hbx, fun q_ h1 h2 => (bytesS_ins q_ h1).elim (fun h_ => (fun q_ h1 h2 => pr_17 q_ h2 h1) q_ h_ h2) (fun h_ => (fun q_ h1 h2 => pr_16 q_ h2 h1) q_ h_ h2)⟩, pr_19, K0⟩

end Go.Proofs.Ytambibdkanpmaaa
