/-
  The reference's disk, fifth part.
-/
import Derived.Test.YtambibdkanpmaaaRows
import Derived.Test.YtambibdkanpmaaaDq
namespace Go.Proofs.Ytambibdkanpmaaa
attribute [local irreducible] St1 RL RA RT RT1 Run

section
variable {room : Int} {pl : List PF} {n to : ByteArray} {rs : List RF} {r : RF}
theorem PLOk.snoc {f : PF} (h : PLOk room pl) (hn : ∀ g ∈ pl, g.name ≠ f.name) (hm : mayN f.name = true) (hs : f.synced ≤ f.bytes.length) (hu : (usedL pl : Int) + f.bytes.length ≤ room) (hl : pl.length < 64) : PLOk room (pl ++ [f]) := by
  refine ⟨?_, ?_, ?_, ?_, ?_, h.room⟩
  · rw [List.map_append, List.nodup_append]
    refine ⟨h.nodup, by simp, ?_⟩
    intro y hy z hz
    obtain ⟨q, hq, rfl⟩ := List.mem_map.1 hy
    simp only [List.map_cons, List.map_nil, List.mem_singleton] at hz
    subst hz; exact hn q hq
  · intro x hx
    rcases List.mem_append.1 hx with hx | hx
    · exact h.may x hx
    · simp only [List.mem_singleton] at hx; subst hx; exact hm
  · intro x hx
    rcases List.mem_append.1 hx with hx | hx
    · exact h.sync x hx
    · simp only [List.mem_singleton] at hx; subst hx; exact hs
  · rw [used_append]; simp only [usedL, List.map_cons, List.map_nil, List.sum_cons, List.sum_nil] at *; omega
  · rw [List.length_append]; simp only [List.length_singleton]; omega
theorem rem_lt {f : PF} (h : f ∈ pl) : usedL (remL pl f.name) + f.bytes.length ≤ usedL pl ∧ (remL pl f.name).length < pl.length := by
  obtain ⟨l1, l2, rfl⟩ := List.append_of_mem h
  have e : remL (l1 ++ f :: l2) f.name = remL l1 f.name ++ remL l2 f.name := by rw [remL, List.filter_append, List.filter_cons, if_neg (by simp)]; rfl
  rw [e, used_append, List.length_append]
  have h1 : usedL (remL l1 f.name) ≤ usedL l1 := usedL_sub List.filter_sublist
  have h2 : usedL (remL l2 f.name) ≤ usedL l2 := usedL_sub List.filter_sublist
  have h3 : (remL l1 f.name).length ≤ l1.length := List.length_filter_le _ _
  have h4 : (remL l2 f.name).length ≤ l2.length := List.length_filter_le _ _
  have h5 : usedL (l1 ++ f :: l2) = usedL l1 + (f.bytes.length + usedL l2) := by rw [used_append]; simp [usedL]
  rw [h5]
  simp only [List.length_append, List.length_cons]
  omega
theorem PLOk.ren (h : PLOk room pl) : PLOk room (renL pl n to) := by
  unfold renL
  split
  · rename_i he
    have hto : mayN to = true := by
      unfold renE at he
      split at he
      · split at he
        · assumption
        · cases he
      · cases he
    split
    · rename_i f hf
      obtain ⟨hm, rfl⟩ := lookL_some hf
      have hlt := rem_lt hm
      have h2 := usedL_sub (a := remL (remL pl f.name) to) (b := remL pl f.name) List.filter_sublist
      have h3 : (remL (remL pl f.name) to).length ≤ (remL pl f.name).length := List.length_filter_le _ _
      have hu := h.used
      have hl := h.len
      refine h.rem.rem.snoc (f := { f with name := to }) (fun g hg => by have := (List.mem_filter.1 hg).2; simpa using this) hto (h.sync f hm) (by show _ + (f.bytes.length : Int) ≤ _; omega) (by omega)
    · exact h
  · exact h
theorem renR_in {r0 : RF} (h0 : r0.p = { r.p with name := to }) (hok : PLOk room (rs.map RF.p)) {i : Nat} (hm : mayN n = true) (hm2 : mayN to = true) (hr : rs[i]? = some r) (hn : r.name = n) :
    ((insR r0 (keepR to (keepR n rs rs.length) (keepR n rs rs.length).length)).map RF.p).Perm (renL (rs.map RF.p) n to) := by
  refine ((insR_perm _ _).map RF.p).trans ?_
  have he : renE (rs.map RF.p) n to = 0 := by rw [renE, if_pos hm, if_pos hm2, hasR_in hr hn]; rfl
  rw [renL, if_pos he, lookR_in hok hr hn, List.map_append, keepR_all, keepR_all]
  simp only [List.map_cons, List.map_nil, h0]
  exact List.Perm.refl _
theorem keepR_no' {m : ByteArray} : ∀ y ∈ keepR m rs rs.length, y.name ≠ m := fun y hy => by have := (List.mem_filter.1 hy).2; simpa using this
theorem SortedL.keep (h : SortedL (rs.map RF.p)) (m : ByteArray) : SortedL ((keepR m rs rs.length).map RF.p) := by rw [keepR_all]; exact List.Pairwise.filter _ h
theorem renE_bad3 (h : mayN n = false ∨ mayN to = false) : renE pl n to = 6 := by
  rcases h with h | h
  · exact renE_bad h
  · by_cases hm : mayN n = true
    · exact renE_bad2 hm h
    · exact renE_bad (by simpa using hm)
theorem renER_no (hm : mayN n = true) (h2 : mayN to = true) (h : ∀ r ∈ rs, r.name ≠ n) : renE (rs.map RF.p) n to = 20 := by rw [renE, if_pos hm, if_pos h2, hasR_no h]; rfl
theorem renER_in {i : Nat} (hm : mayN n = true) (h2 : mayN to = true) (hr : rs[i]? = some r) (hn : r.name = n) : renE (rs.map RF.p) n to = 0 := by rw [renE, if_pos hm, if_pos h2, hasR_in hr hn]; rfl
end

theorem en65 : Enters Try.prog 65 := enters_of Try.func65 rfl (by kernel_rfl)
theorem en66 : Enters Try.prog 66 := enters_of Try.func66 rfl (by kernel_rfl)

set_option maxRecDepth 100000 in
set_option maxHeartbeats 4000000 in
theorem syncR (x : Nat) (al : Option Addr) (cl : Nat) (room : Int) (rs : List RF) (name : ByteArray) (w : World) (hD : RefO w x al cl room rs) (hs : name.size ≤ 4294967295) :
    Calls Try.prog 53 #[.pointer (some ⟨x, 0, none⟩), .string (name)] w (Ret (fun v w' => ∃ al' cl' rs', v = .int .i64 (lookE (rs.map RF.p) name) ∧ RefO w' x al' cl' room rs' ∧ (rs'.map RF.p).Perm (syncL (rs.map RF.p) name) ∧ (∀ q, refS x al' rs' q → q < w.heap.size → refS x al rs q) ∧ Keeps (refS x al rs) w w')) := by
  obtain ⟨⟨hb, ho, hy, hox, hbx, hbo⟩, hok, hso⟩ := hD
  have hml : (rs.map RF.c).length = rs.length := List.length_map ..
  have hnd := RefO.names hok
  have hl : rs.length ≤ 64 := by have := hok.len; rwa [List.length_map] at this
  have hroom := hok.room
  have hused := hok.used
  refine calls_run (n := 32) Try.func53 rfl rfl rfl ?_
  refine Run.seq ?_
  refine Run.region ?_
  refine RL.val (x_assignI rfl) ?_
  refine RL.nil ?_
  refine Run.seq ?_
  refine Run.region ?_
  refine RL.val (x_moveP rfl) ?_
  refine RL.val (x_moveS rfl) ?_
  refine RL.st rfl <| St1.call (vals := [.pointer (some ⟨x, 0, none⟩), .string (name)]) en65 rfl (lookR x al cl room rs name _ (⟨hb, ho, hy, hox, hbx, hbo⟩ : RefM _ x al cl room rs) (by omega) (by omega)) ?_
  rintro _ w_1 ⟨K_2, (⟨hmay, rfl⟩ | ⟨hmay, hrno, rfl⟩ | ⟨hmay, ri, r, hr, hrn, rfl⟩)⟩
  · replace hb := hb.ext K_2
    replace ho := ho.ext K_2
    replace hy := hy.ext K_2
    have K0 := (K_2 : Ext w _).to (S := (refS x al rs))
    refine RL.val (x_moveT rfl) ?_
    refine RL.val (x_extract rfl rfl) ?_
    refine RL.val (x_extract rfl rfl) ?_
    refine RL.val (x_assignI rfl) ?_
    refine RL.val (x_assignI rfl) ?_
    refine RL.nil ?_
    refine Run.seq ?_
    refine Run.seq ?_
    refine Run.region ?_
    refine RL.val (x_moveI rfl) ?_
    refine RL.val (litT (x_neI rfl rfl) (by decide)) ?_
    refine RL.nil ?_
    refine Run.condT rfl ?_
    refine Run.seq ?_
    refine Run.region ?_
    refine RL.val (x_moveI rfl) ?_
    refine RL.val (x_assignI rfl) ?_
    refine RL.nil ?_
    refine Run.ret1 (v := .int .i64 (6)) Try.func53 rfl rfl ?_
    exact ⟨_, rfl, al, cl, rs, by rw [lookE_bad hmay], ⟨⟨hb, ho, hy, hox, hbx, hbo⟩, hok, hso⟩, by rw [syncL, upd_no (noRP (badRP hok hmay))], fun _ h _ => h, K0⟩
  · replace hb := hb.ext K_2
    replace ho := ho.ext K_2
    replace hy := hy.ext K_2
    have K0 := (K_2 : Ext w _).to (S := (refS x al rs))
    refine RL.val (x_moveT rfl) ?_
    refine RL.val (x_extract rfl rfl) ?_
    refine RL.val (x_extract rfl rfl) ?_
    refine RL.val (x_assignI rfl) ?_
    refine RL.val (x_assignI rfl) ?_
    refine RL.nil ?_
    refine Run.seq ?_
    refine Run.seq ?_
    refine Run.region ?_
    refine RL.val (x_moveI rfl) ?_
    refine RL.val (litT (x_neI rfl rfl) (by decide)) ?_
    refine RL.nil ?_
    refine Run.condT rfl ?_
    refine Run.seq ?_
    refine Run.region ?_
    refine RL.val (x_moveI rfl) ?_
    refine RL.val (x_assignI rfl) ?_
    refine RL.nil ?_
    refine Run.ret1 (v := .int .i64 (20)) Try.func53 rfl rfl ?_
    exact ⟨_, rfl, al, cl, rs, by rw [lookER_no hmay hrno], ⟨⟨hb, ho, hy, hox, hbx, hbo⟩, hok, hso⟩, by rw [syncL, upd_no (noRP hrno)], fun _ h _ => h, K0⟩
  · replace hb := hb.ext K_2
    replace ho := ho.ext K_2
    replace hy := hy.ext K_2
    have K0 := (K_2 : Ext w _).to (S := (refS x al rs))
    have hrl : ri < rs.length := (List.getElem?_eq_some_iff.1 hr).1
    refine RL.val (x_moveT rfl) ?_
    refine RL.val (x_extract rfl rfl) ?_
    refine RL.val (x_extract rfl rfl) ?_
    refine RL.val (x_assignI rfl) ?_
    refine RL.val (x_assignI rfl) ?_
    refine RL.nil ?_
    refine Run.seq ?_
    refine Run.seq ?_
    refine Run.region ?_
    refine RL.val (x_moveI rfl) ?_
    refine RL.val (litF (x_neI rfl rfl) (by decide)) ?_
    refine RL.nil ?_
    refine Run.condF rfl ?_
    refine Run.skip ?_
    refine Run.seq ?_
    obtain ⟨b_3, o_4, y, hx, ha_5, hc_6⟩ := ho.sl.el (i := ri) (by omega)
    have hy_ := hy
    obtain ⟨r_, hr_, hxr⟩ := rf_get hx
    obtain rfl : r = r_ := Option.some.inj (hr.symm.trans hr_)
    have hrb := (hy_.all r (List.mem_of_getElem? hr))
    refine Run.drawT [16] (m := 17) (by kernel_rfl) rfl ?_
    intro w_9 K_10
    replace hb := hb.ext K_10
    replace ho := ho.ext K_10
    replace hy := hy.ext K_10
    replace hc_6 := hc_6.ext K_10
    replace K0 := K0.ext K_10
    refine ⟨fun w' => Blk w' x [.int .i64 (room), .slice (al) ((rs.map RF.c).length) (cl)] 89 ∧ Cl w' b_3 (o_4 + ri * 3) (cellsOf y) ∧ True, ?_⟩
    refine RT.takeP (v := .pointer (some ⟨x, 0, none⟩)) 0 rfl (by kernel_rfl) (.inr ⟨hb, hc_6, trivial⟩) (fun _ => (x_moveP rfl)) ?_
    refine RT.takeP (v := .pointer (some ⟨x, 0, none⟩)) 1 rfl (by kernel_rfl) (.inr ⟨hb, hc_6, trivial⟩) (fun _ => (x_nilCheck rfl)) ?_
    refine RT.takeP (v := .pointer (some ⟨x, 1, none⟩)) 2 rfl (by kernel_rfl) (.inr ⟨hb, hc_6, trivial⟩) (fun _ => (x_fld (o' := 1) Try.underlying89 rfl ty87 rfl rfl rfl)) ?_
    refine RT.take (v := .slice (al) ((rs.map RF.c).length) (cl)) 3 rfl (by kernel_rfl) ⟨hb, hc_6, trivial⟩ (by rintro _ ⟨hb, hc_6, -⟩; exact (x_ld (v := .slice (al) ((rs.map RF.c).length) (cl)) ty87 rfl rfl (hb.cl.field (i := 1) rfl))) ?_
    refine RT.takeP (v := .int .i64 (((ri : Nat) : Int))) 4 rfl (by kernel_rfl) (.inr ⟨hb, hc_6, trivial⟩) (fun _ => (x_moveI rfl)) ?_
    refine RT.takeP (v := .pointer (some ⟨x, 0, none⟩)) 5 rfl (by kernel_rfl) (.inr ⟨hb, hc_6, trivial⟩) (fun _ => (x_moveP rfl)) ?_
    refine RT.takeP (v := .pointer (some ⟨x, 0, none⟩)) 6 rfl (by kernel_rfl) (.inr ⟨hb, hc_6, trivial⟩) (fun _ => (x_nilCheck rfl)) ?_
    refine RT.takeP (v := .pointer (some ⟨x, 1, none⟩)) 7 rfl (by kernel_rfl) (.inr ⟨hb, hc_6, trivial⟩) (fun _ => (x_fld (o' := 1) Try.underlying89 rfl ty87 rfl rfl rfl)) ?_
    refine RT.take (v := .slice (al) ((rs.map RF.c).length) (cl)) 8 rfl (by kernel_rfl) ⟨hb, hc_6, trivial⟩ (by rintro _ ⟨hb, hc_6, -⟩; exact (x_ld (v := .slice (al) ((rs.map RF.c).length) (cl)) ty87 rfl rfl (hb.cl.field (i := 1) rfl))) ?_
    refine RT.takeP (v := .int .i64 (((ri : Nat) : Int))) 9 rfl (by kernel_rfl) (.inr ⟨hb, hc_6, trivial⟩) (fun _ => (x_moveI rfl)) ?_
    refine RT.takeP (v := .pointer (some ⟨b_3, o_4 + ri * 3, none⟩)) 10 rfl (by kernel_rfl) (.inr ⟨hb, hc_6, trivial⟩) (fun _ => (x_idxN Try.underlying87 ty93 rfl rfl ha_5 (by first | omega | (simp only [List.length_set]; omega)))) ?_
    refine RT.takeP (v := .pointer (some ⟨b_3, o_4 + ri * 3 + 1, none⟩)) 11 rfl (by kernel_rfl) (.inr ⟨hb, hc_6, trivial⟩) (fun _ => (x_fld (o' := o_4 + ri * 3 + 1) Try.underlying93 rfl ty26 rfl rfl rfl)) ?_
    refine RT.take (v := .slice (r.a) (r.bytes.length) (r.cap)) 12 rfl (by kernel_rfl) ⟨hb, hc_6, trivial⟩ (by rintro _ ⟨hb, hc_6, -⟩; exact (litV (v' := .slice r.a r.bytes.length r.cap) (x_ld ty26 rfl rfl (hc_6.field (i := 1) rfl)) (by rw [hxr]; rfl))) ?_
    refine RT.takeP (v := .int .i64 (((r.bytes.length : Nat) : Int))) 13 rfl (by kernel_rfl) (.inr ⟨hb, hc_6, trivial⟩) (fun _ => (x_lenSl Try.underlying26 rfl)) ?_
    refine RT.takeP (v := .pointer (some ⟨b_3, o_4 + ri * 3, none⟩)) 14 rfl (by kernel_rfl) (.inr ⟨hb, hc_6, trivial⟩) (fun _ => (x_idxN Try.underlying87 ty93 rfl rfl ha_5 (by first | omega | (simp only [List.length_set]; omega)))) ?_
    refine RT.takeP (v := .pointer (some ⟨b_3, o_4 + ri * 3 + 2, none⟩)) 15 rfl (by kernel_rfl) (.inr ⟨hb, hc_6, trivial⟩) (fun _ => (x_fld (o' := o_4 + ri * 3 + 2) Try.underlying93 rfl ty3 rfl rfl rfl)) ?_
    refine RT.st 16 rfl (by kernel_rfl) rfl <| St1.storeEl (v := .int .i64 (((r.bytes.length : Nat) : Int))) (off := 2) (i := ri) (⟨y.name, y.b, ((r.bytes.length : Nat) : Int)⟩ : FileC) ty3 rfl rfl rfl (by simp [Value.cells, Value.oneCell']) ho ha_5 hx rfl (by decide) rfl ?_
    intro w_11 ho_13 K_12
    clear hc_6
    replace hb := hb.keep K_12 hox
    replace hy := hy.keepO K_12 hbo
    replace K0 := K0.trans K_12 (fun x hlt hx => (fun q_ h_ _ => Or.inl (Or.inr h_)) x hx hlt)
    replace ho := ho_13
    clear ho_13
    rw [show (rs.map RF.c).length = ((rs.map RF.c).set ri (⟨y.name, y.b, ((r.bytes.length : Nat) : Int)⟩ : FileC)).length from (List.length_set ..).symm] at hb
    refine ⟨.inl (by kernel_rfl), ?_⟩
    refine RT.done (by kernel_rfl) ?_
    refine Run.seq ?_
    refine Run.region ?_
    refine RL.val (x_assignI rfl) ?_
    refine RL.nil ?_
    refine Run.ret1 (v := .int .i64 (0)) Try.func53 rfl rfl ?_
    rw [set_rs (s := r.bytes.length) hxr] at hb ho
    have hss : ∀ q_, bytesS (rs.set ri (⟨r.name, r.a, r.cap, r.bytes, r.bytes.length⟩ : RF)) q_ → bytesS rs q_ := fun q_ h_ => (bytesS_set q_ h_).elim (fun y_ => ⟨r, List.mem_of_getElem? hr, y_⟩) id
    have hy2 : BytesAt w_11 (rs.set ri (⟨r.name, r.a, r.cap, r.bytes, r.bytes.length⟩ : RF)) := ⟨fun z hz => (List.mem_or_eq_of_mem_set hz).elim (fun h_ => hy.all z h_) (fun e_ => by rw [e_]; exact hy.all r (List.mem_of_getElem? hr))⟩
    have he_ : (rs.set ri (⟨r.name, r.a, r.cap, r.bytes, r.bytes.length⟩ : RF)).map RF.p = syncL (rs.map RF.p) name := upd_set hnd hr rfl hrn
    exact ⟨_, rfl, al, cl, _, by rw [lookER_in hmay hr hrn], ⟨(⟨hb, ho, hy2, hox, (fun h_ => hbx (hss _ h_)), (fun q_ h_ h2 => hbo q_ (hss q_ h_) h2)⟩ : RefM _ x al cl room (rs.set ri (⟨r.name, r.a, r.cap, r.bytes, r.bytes.length⟩ : RF))), (by rw [he_]; exact hok.syn), (by rw [he_]; exact SortedL.upd hso (fun _ => rfl))⟩, by rw [he_], fun q_ h_ hl_ => h_.elim (fun h_ => h_.elim (fun e_ => Or.inl (Or.inl e_)) (fun h_ => (fun q_ h_ _ => Or.inl (Or.inr h_)) q_ h_ hl_)) (fun h_ => Or.inr (hss q_ h_)), K0⟩

set_option maxRecDepth 100000 in
set_option maxHeartbeats 4000000 in
theorem readR (x : Nat) (al : Option Addr) (cl : Nat) (room : Int) (rs : List RF) (name : ByteArray) (w : World) (hD : RefO w x al cl room rs) (hs : name.size ≤ 4294967295) :
    Calls Try.prog 58 #[.pointer (some ⟨x, 0, none⟩), .string (name)] w (Ret (fun v w' => ∃ a' c', v = .tuple #[.slice a' (readB (rs.map RF.p) name).length c', .int .i64 (lookE (rs.map RF.p) name)] ∧ OwnSl w' 5 a' c' (readB (rs.map RF.p) name) ∧ (∀ b, own a' b → w.heap.size ≤ b) ∧ Ext w w')) := by
  obtain ⟨⟨hb, ho, hy, hox, hbx, hbo⟩, hok, hso⟩ := hD
  have hml : (rs.map RF.c).length = rs.length := List.length_map ..
  have hnd := RefO.names hok
  have hl : rs.length ≤ 64 := by have := hok.len; rwa [List.length_map] at this
  have hroom := hok.room
  have hused := hok.used
  refine calls_run (n := 26) Try.func58 rfl rfl rfl ?_
  refine Run.seq ?_
  refine Run.region ?_
  refine RL.val (x_assignSl rfl) ?_
  refine RL.val (x_assignI rfl) ?_
  refine RL.nil ?_
  refine Run.seq ?_
  refine Run.region ?_
  refine RL.val (x_moveP rfl) ?_
  refine RL.val (x_moveS rfl) ?_
  refine RL.st rfl <| St1.call (vals := [.pointer (some ⟨x, 0, none⟩), .string (name)]) en65 rfl (lookR x al cl room rs name _ (⟨hb, ho, hy, hox, hbx, hbo⟩ : RefM _ x al cl room rs) (by omega) (by omega)) ?_
  rintro _ w_1 ⟨K_2, (⟨hmay, rfl⟩ | ⟨hmay, hrno, rfl⟩ | ⟨hmay, ri, r, hr, hrn, rfl⟩)⟩
  · replace hb := hb.ext K_2
    replace ho := ho.ext K_2
    replace hy := hy.ext K_2
    have K0 := (K_2 : Ext w _)
    refine RL.val (x_moveT rfl) ?_
    refine RL.val (x_extract rfl rfl) ?_
    refine RL.val (x_extract rfl rfl) ?_
    refine RL.val (x_assignI rfl) ?_
    refine RL.val (x_assignI rfl) ?_
    refine RL.nil ?_
    refine Run.seq ?_
    refine Run.seq ?_
    refine Run.region ?_
    refine RL.val (x_moveI rfl) ?_
    refine RL.val (litT (x_neI rfl rfl) (by decide)) ?_
    refine RL.nil ?_
    refine Run.condT rfl ?_
    refine Run.seq ?_
    refine Run.region ?_
    refine RL.val (x_moveI rfl) ?_
    refine RL.val (x_assignSl rfl) ?_
    refine RL.val (x_assignI rfl) ?_
    refine RL.nil ?_
    refine Run.ret2 (v := .slice (none) (0) (0)) (x := .int .i64 (6)) Try.func58 rfl rfl rfl ?_
    have e_ : readB (rs.map RF.p) name = [] := by rw [readB, lookL_none (noRP (badRP hok hmay))]; rfl
    rw [e_, lookE_bad hmay]
    exact ⟨_, rfl, none, 0, rfl, OwnSl.nil _ _, fun b h => absurd h (own_none b), K0⟩
  · replace hb := hb.ext K_2
    replace ho := ho.ext K_2
    replace hy := hy.ext K_2
    have K0 := (K_2 : Ext w _)
    refine RL.val (x_moveT rfl) ?_
    refine RL.val (x_extract rfl rfl) ?_
    refine RL.val (x_extract rfl rfl) ?_
    refine RL.val (x_assignI rfl) ?_
    refine RL.val (x_assignI rfl) ?_
    refine RL.nil ?_
    refine Run.seq ?_
    refine Run.seq ?_
    refine Run.region ?_
    refine RL.val (x_moveI rfl) ?_
    refine RL.val (litT (x_neI rfl rfl) (by decide)) ?_
    refine RL.nil ?_
    refine Run.condT rfl ?_
    refine Run.seq ?_
    refine Run.region ?_
    refine RL.val (x_moveI rfl) ?_
    refine RL.val (x_assignSl rfl) ?_
    refine RL.val (x_assignI rfl) ?_
    refine RL.nil ?_
    refine Run.ret2 (v := .slice (none) (0) (0)) (x := .int .i64 (20)) Try.func58 rfl rfl rfl ?_
    have e_ : readB (rs.map RF.p) name = [] := by rw [readB, lookL_none (noRP hrno)]; rfl
    rw [e_, lookER_no hmay hrno]
    exact ⟨_, rfl, none, 0, rfl, OwnSl.nil _ _, fun b h => absurd h (own_none b), K0⟩
  · replace hb := hb.ext K_2
    replace ho := ho.ext K_2
    replace hy := hy.ext K_2
    have K0 := (K_2 : Ext w _)
    have hrl : ri < rs.length := (List.getElem?_eq_some_iff.1 hr).1
    refine RL.val (x_moveT rfl) ?_
    refine RL.val (x_extract rfl rfl) ?_
    refine RL.val (x_extract rfl rfl) ?_
    refine RL.val (x_assignI rfl) ?_
    refine RL.val (x_assignI rfl) ?_
    refine RL.nil ?_
    refine Run.seq ?_
    refine Run.seq ?_
    refine Run.region ?_
    refine RL.val (x_moveI rfl) ?_
    refine RL.val (litF (x_neI rfl rfl) (by decide)) ?_
    refine RL.nil ?_
    refine Run.condF rfl ?_
    refine Run.skip ?_
    refine Run.seq ?_
    have hy_ := hy
    have hrbl : r.bytes.length ≤ 16777216 := by have := usedL_mem (pl := rs.map RF.p) (f := r.p) (List.mem_map.2 ⟨r, List.mem_of_getElem? hr, rfl⟩); have h2 : r.p.bytes = r.bytes := rfl; rw [h2] at this; omega
    refine Run.region ?_
    refine RL.val (x_moveP rfl) ?_
    refine RL.val (x_nilCheck rfl) ?_
    refine RL.val (x_fld (o' := 1) Try.underlying89 rfl ty87 rfl rfl rfl) ?_
    refine RL.val (x_ld (v := .slice (al) ((rs.map RF.c).length) (cl)) ty87 rfl rfl (hb.cl.field (i := 1) rfl)) ?_
    refine RL.val (x_moveI rfl) ?_
    obtain ⟨b_3, o_4, y, hx, ha_5, hc_6⟩ := ho.sl.el (i := ri) (by first | omega | (simp only [List.length_set]; omega))
    refine RL.val (x_idxN Try.underlying87 ty93 rfl rfl ha_5 (by first | omega | (simp only [List.length_set]; omega))) ?_
    obtain ⟨r_, hr_, hxr⟩ := rf_get hx
    obtain rfl : r = r_ := Option.some.inj (hr.symm.trans hr_)
    have hrb := (hy_.all r (List.mem_of_getElem? hr))
    refine RL.val (x_fld (o' := o_4 + ri * 3 + 1) Try.underlying93 rfl ty26 rfl rfl rfl) ?_
    refine RL.val (litV (v' := .slice r.a r.bytes.length r.cap) (x_ld ty26 rfl rfl (hc_6.field (i := 1) rfl)) (by rw [hxr]; rfl)) ?_
    have ho_9 := OwnSl.nil (α := UInt8) w_1 5
    refine RL.st rfl <| St1.append (xs := ([] : List UInt8)) (ys := r.bytes) Try.underlying26 ty5 rfl rfl rfl ho_9 (hy.all r (List.mem_of_getElem? hr)).1 (by simp only [lr]; omega) (by decide) ?_
    intro a_10 c_11 w_12 ho_13 K_14 hm_15 hrm_16
    have pr_17 : ¬ own a_10 x := hm_15.not (own_none x) hb.lt
    have pr_18 : ∀ q_, own a_10 q_ → ¬ own al q_ := hm_15.apart (fun q_ h1 _ => own_none q_ h1) ho.own_lt
    have pr_19 : ∀ q_, own a_10 q_ → ¬ bytesS rs q_ := hm_15.apart (fun q_ h1 _ => own_none q_ h1) hy.own_lt
    have pg_20 : ∀ q_, own a_10 q_ → w.heap.size ≤ q_ := hm_15.ge (fun q_ h1 => absurd h1 (own_none q_)) K0.size
    replace hb := hb.keep K_14 (own_none x)
    replace ho := ho.keepO K_14 (fun q_ h1 h2 => (fun q_ h1 _ => own_none q_ h1) q_ h2 h1)
    replace hy := hy.keepO K_14 (fun q_ h1 h2 => (fun q_ h1 _ => own_none q_ h1) q_ h2 h1)
    replace hc_6 := hc_6.keep K_14 (fun h => (fun q_ h1 h2 => (fun q_ h1 _ => own_none q_ h1) q_ h2 h1) _ ((own_sub _) _ ha_5) h)
    replace K0 := K0.new K_14 (fun q_ h1 => absurd h1 (own_none q_))
    clear hm_15
    clear hrm_16
    refine RL.val (x_assignSl rfl) ?_
    refine RL.val (x_assignI rfl) ?_
    refine RL.nil ?_
    refine Run.ret2 (v := .slice (a_10) ((([] : List UInt8) ++ r.bytes).length) (c_11)) (x := .int .i64 (0)) Try.func58 rfl rfl rfl ?_
    rw [List.nil_append] at ho_13 ⊢
    have e_ : readB (rs.map RF.p) name = r.bytes := by rw [readB, lookR_in hok hr hrn]; rfl
    rw [e_, lookER_in hmay hr hrn]
    exact ⟨_, rfl, a_10, c_11, rfl, ho_13, pg_20, K0⟩

set_option maxRecDepth 100000 in
set_option maxHeartbeats 4000000 in
theorem removeR (x : Nat) (al : Option Addr) (cl : Nat) (room : Int) (rs : List RF) (name : ByteArray) (w : World) (hD : RefO w x al cl room rs) (hs : name.size ≤ 4294967295) :
    Calls Try.prog 55 #[.pointer (some ⟨x, 0, none⟩), .string (name)] w (Ret (fun v w' => ∃ al' cl' rs', v = .int .i64 (lookE (rs.map RF.p) name) ∧ RefO w' x al' cl' room rs' ∧ (rs'.map RF.p).Perm (remL (rs.map RF.p) name) ∧ (∀ q, refS x al' rs' q → q < w.heap.size → refS x al rs q) ∧ Keeps (refS x al rs) w w')) := by
  obtain ⟨⟨hb, ho, hy, hox, hbx, hbo⟩, hok, hso⟩ := hD
  have hml : (rs.map RF.c).length = rs.length := List.length_map ..
  have hnd := RefO.names hok
  have hl : rs.length ≤ 64 := by have := hok.len; rwa [List.length_map] at this
  have hroom := hok.room
  have hused := hok.used
  refine calls_run (n := 19) Try.func55 rfl rfl rfl ?_
  refine Run.seq ?_
  refine Run.region ?_
  refine RL.val (x_assignI rfl) ?_
  refine RL.nil ?_
  refine Run.seq ?_
  refine Run.region ?_
  refine RL.val (x_moveP rfl) ?_
  refine RL.val (x_moveS rfl) ?_
  refine RL.st rfl <| St1.call (vals := [.pointer (some ⟨x, 0, none⟩), .string (name)]) en65 rfl (lookR x al cl room rs name _ (⟨hb, ho, hy, hox, hbx, hbo⟩ : RefM _ x al cl room rs) (by omega) (by omega)) ?_
  rintro _ w_1 ⟨K_2, (⟨hmay, rfl⟩ | ⟨hmay, hrno, rfl⟩ | ⟨hmay, ri, r, hr, hrn, rfl⟩)⟩
  · replace hb := hb.ext K_2
    replace ho := ho.ext K_2
    replace hy := hy.ext K_2
    have K0 := (K_2 : Ext w _).to (S := (refS x al rs))
    refine RL.val (x_moveT rfl) ?_
    refine RL.val (x_extract rfl rfl) ?_
    refine RL.val (x_extract rfl rfl) ?_
    refine RL.val (x_assignI rfl) ?_
    refine RL.val (x_assignI rfl) ?_
    refine RL.nil ?_
    refine Run.seq ?_
    refine Run.seq ?_
    refine Run.region ?_
    refine RL.val (x_moveI rfl) ?_
    refine RL.val (litT (x_neI rfl rfl) (by decide)) ?_
    refine RL.nil ?_
    refine Run.condT rfl ?_
    refine Run.seq ?_
    refine Run.region ?_
    refine RL.val (x_moveI rfl) ?_
    refine RL.val (x_assignI rfl) ?_
    refine RL.nil ?_
    refine Run.ret1 (v := .int .i64 (6)) Try.func55 rfl rfl ?_
    exact ⟨_, rfl, al, cl, rs, by rw [lookE_bad hmay], ⟨⟨hb, ho, hy, hox, hbx, hbo⟩, hok, hso⟩, by rw [remL_none (noRP (badRP hok hmay))], fun _ h _ => h, K0⟩
  · replace hb := hb.ext K_2
    replace ho := ho.ext K_2
    replace hy := hy.ext K_2
    have K0 := (K_2 : Ext w _).to (S := (refS x al rs))
    refine RL.val (x_moveT rfl) ?_
    refine RL.val (x_extract rfl rfl) ?_
    refine RL.val (x_extract rfl rfl) ?_
    refine RL.val (x_assignI rfl) ?_
    refine RL.val (x_assignI rfl) ?_
    refine RL.nil ?_
    refine Run.seq ?_
    refine Run.seq ?_
    refine Run.region ?_
    refine RL.val (x_moveI rfl) ?_
    refine RL.val (litT (x_neI rfl rfl) (by decide)) ?_
    refine RL.nil ?_
    refine Run.condT rfl ?_
    refine Run.seq ?_
    refine Run.region ?_
    refine RL.val (x_moveI rfl) ?_
    refine RL.val (x_assignI rfl) ?_
    refine RL.nil ?_
    refine Run.ret1 (v := .int .i64 (20)) Try.func55 rfl rfl ?_
    exact ⟨_, rfl, al, cl, rs, by rw [lookER_no hmay hrno], ⟨⟨hb, ho, hy, hox, hbx, hbo⟩, hok, hso⟩, by rw [remL_none (noRP hrno)], fun _ h _ => h, K0⟩
  · replace hb := hb.ext K_2
    replace ho := ho.ext K_2
    replace hy := hy.ext K_2
    have K0 := (K_2 : Ext w _).to (S := (refS x al rs))
    have hrl : ri < rs.length := (List.getElem?_eq_some_iff.1 hr).1
    refine RL.val (x_moveT rfl) ?_
    refine RL.val (x_extract rfl rfl) ?_
    refine RL.val (x_extract rfl rfl) ?_
    refine RL.val (x_assignI rfl) ?_
    refine RL.val (x_assignI rfl) ?_
    refine RL.nil ?_
    refine Run.seq ?_
    refine Run.seq ?_
    refine Run.region ?_
    refine RL.val (x_moveI rfl) ?_
    refine RL.val (litF (x_neI rfl rfl) (by decide)) ?_
    refine RL.nil ?_
    refine Run.condF rfl ?_
    refine Run.skip ?_
    refine Run.seq ?_
    refine Run.region ?_
    refine RL.val (x_moveP rfl) ?_
    refine RL.val (x_moveS rfl) ?_
    refine RL.st rfl <| St1.call (vals := [.pointer (some ⟨x, 0, none⟩), .string (name)]) en66 rfl (withoutR x al cl room rs name _ (⟨hb, ho, hy, hox, hbx, hbo⟩ : RefM _ x al cl room rs) (by omega)) ?_
    rintro _ w_3 ⟨rfl, al_5, cl_6, ⟨hb_7, ho_8, hy_9, hox_10, hbx_11, hbo_12⟩, hnew_13, K_4⟩
    have pr_14 : ¬ own al_5 x := notNew hnew_13 hb.lt
    have pr_15 : ∀ q_, own al_5 q_ → ¬ own al q_ := apartNew hnew_13 ho.own_lt
    have pr_16 : ∀ q_, own al_5 q_ → ¬ bytesS rs q_ := apartNew hnew_13 hy.own_lt
    have pg_17 : ∀ q_, own al_5 q_ → q_ < w.heap.size → (refS x al rs) q_ := fun q_ h hlt => absurd (Nat.le_trans K0.size (hnew_13 q_ h)) (by omega)
    have pw_18 : ∀ q_, own al_5 q_ → w.heap.size ≤ q_ := fun q_ h => Nat.le_trans K0.size (hnew_13 q_ h)
    have pr_19 : ∀ q_, writeS x al q_ → ¬ bytesS rs q_ := fun q_ x_ z_ => ((fun q_ h_ => h_) _ x_).elim (fun e_ => hbx (show bytesS rs x from e_ ▸ z_)) (fun y_ => (fun y_ => (fun q_ h1 h2 => hbo q_ h2 h1) q_ y_ z_) y_)
    have pg_20 : ∀ q_, writeS x al q_ → q_ < w.heap.size → (refS x al rs) q_ := fun q_ x_ hl_ => ((fun q_ h_ => h_) _ x_).elim (fun e_ => e_ ▸ (Or.inl (Or.inl rfl))) (fun y_ => (fun y_ => (fun q_ h_ _ => Or.inl (Or.inr h_)) q_ y_ hl_) y_)
    replace K0 := K0.trans K_4 (fun x hlt hx => pg_20 x hx hlt)
    clear hb ho hy
    have hb := hb_7
    refine RL.nil ?_
    refine Run.seq ?_
    refine Run.region ?_
    refine RL.val (x_assignI rfl) ?_
    refine RL.nil ?_
    refine Run.ret1 (v := .int .i64 (0)) Try.func55 rfl rfl ?_
    exact ⟨_, rfl, al_5, cl_6, _, by rw [lookER_in hmay hr hrn], ⟨(⟨hb, ho_8, hy_9, hox_10, hbx_11, hbo_12⟩ : RefM _ x al_5 cl_6 room (keepR name rs rs.length)), (by rw [keepR_all]; exact hok.rem), (SortedL.keep hso name)⟩, by rw [keepR_all], fun q_ h_ hl_ => h_.elim (fun h_ => h_.elim (fun e_ => Or.inl (Or.inl e_)) (fun h_ => pg_17 q_ h_ hl_)) (fun h_ => Or.inr (bytesS_sub (keepR_sub name rs rs.length) q_ h_)), K0⟩

set_option maxRecDepth 100000 in
set_option maxHeartbeats 4000000 in
theorem renameR (x : Nat) (al : Option Addr) (cl : Nat) (room : Int) (rs : List RF) (name name2 : ByteArray) (w : World) (hD : RefO w x al cl room rs) (hs : name.size ≤ 4294967295) (hs2 : name2.size ≤ 4294967295) :
    Calls Try.prog 54 #[.pointer (some ⟨x, 0, none⟩), .string (name), .string (name2)] w (Ret (fun v w' => ∃ al' cl' rs', v = .int .i64 (renE (rs.map RF.p) name name2) ∧ RefO w' x al' cl' room rs' ∧ (rs'.map RF.p).Perm (renL (rs.map RF.p) name name2) ∧ (∀ q, refS x al' rs' q → q < w.heap.size → refS x al rs q) ∧ Keeps (refS x al rs) w w')) := by
  obtain ⟨⟨hb, ho, hy, hox, hbx, hbo⟩, hok, hso⟩ := hD
  have hml : (rs.map RF.c).length = rs.length := List.length_map ..
  have hnd := RefO.names hok
  have hl : rs.length ≤ 64 := by have := hok.len; rwa [List.length_map] at this
  have hroom := hok.room
  have hused := hok.used
  refine calls_run (n := 45) Try.func54 rfl rfl rfl ?_
  refine Run.seq ?_
  refine Run.region ?_
  refine RL.val (x_assignI rfl) ?_
  refine RL.nil ?_
  refine Run.seq ?_
  refine Run.seq ?_
  refine Run.region ?_
  refine RL.val (x_moveS rfl) ?_
  refine RL.st rfl <| St1.call (vals := [.string (name)]) en62 rfl (mayR name _ (by omega)) ?_
  rintro _ w_1 ⟨rfl, K_2⟩
  replace hb := hb.ext K_2
  replace ho := ho.ext K_2
  replace hy := hy.ext K_2
  have K0 := (K_2 : Ext w _).to (S := (refS x al rs))
  refine RL.val (x_not rfl) ?_
  refine RL.val (x_moveB rfl) ?_
  refine RL.gval (wantedF rfl rfl rfl rfl) (fun hg => (x_moveS rfl)) ?_
  refine RL.gcall (vals := [.string (name2)]) (wantedF rfl rfl rfl rfl) en62 (fun hg => (mcons (gvr hg) mnil)) (fun hg => (mayR name2 _ (by omega))) ?_
  intro w_3 K_4
  replace hb := hb.ext K_4
  replace ho := ho.ext K_4
  replace hy := hy.ext K_4
  replace K0 := K0.ext K_4
  refine RL.gval (wantedF rfl rfl rfl rfl) (fun hg => (x_not (gvr hg))) ?_
  refine RL.val (x_or rfl rfl rfl) ?_
  refine RL.nil ?_
  refine Run.cond rfl (fun hc17 => ?_) (fun hc17 => ?_)
  · try simp only [br] at hc17
    refine Run.seq ?_
    refine Run.region ?_
    refine RL.val (x_assignI rfl) ?_
    refine RL.nil ?_
    refine Run.ret1 (v := .int .i64 (6)) Try.func54 rfl rfl ?_
    exact ⟨_, rfl, al, cl, rs, by rw [renE_bad3 (by simpa using hc17)], ⟨⟨hb, ho, hy, hox, hbx, hbo⟩, hok, hso⟩, by rw [renL_no (by rw [renE_bad3 (by simpa using hc17)]; decide)], fun _ h _ => h, K0⟩
  · try simp only [br] at hc17
    have hm2 : mayN name2 = true := by simpa using hc17.2
    refine Run.skip ?_
    refine Run.seq ?_
    refine Run.region ?_
    refine RL.val (x_moveP rfl) ?_
    refine RL.val (x_moveS rfl) ?_
    refine RL.st rfl <| St1.call (vals := [.pointer (some ⟨x, 0, none⟩), .string (name)]) en65 rfl (lookR x al cl room rs name _ (⟨hb, ho, hy, hox, hbx, hbo⟩ : RefM _ x al cl room rs) (by omega) (by omega)) ?_
    rintro _ w_5 ⟨K_6, (⟨hmay, rfl⟩ | ⟨hmay, hrno, rfl⟩ | ⟨hmay, ri, r, hr, hrn, rfl⟩)⟩
    · replace hb := hb.ext K_6
      replace ho := ho.ext K_6
      replace hy := hy.ext K_6
      replace K0 := K0.ext K_6
      refine RL.val (x_moveT rfl) ?_
      refine RL.val (x_extract rfl rfl) ?_
      refine RL.val (x_extract rfl rfl) ?_
      refine RL.val (x_assignI rfl) ?_
      refine RL.val (x_assignI rfl) ?_
      refine RL.nil ?_
      refine Run.seq ?_
      refine Run.seq ?_
      refine Run.region ?_
      refine RL.val (x_moveI rfl) ?_
      refine RL.val (litT (x_neI rfl rfl) (by decide)) ?_
      refine RL.nil ?_
      refine Run.condT rfl ?_
      refine Run.seq ?_
      refine Run.region ?_
      refine RL.val (x_moveI rfl) ?_
      refine RL.val (x_assignI rfl) ?_
      refine RL.nil ?_
      refine Run.ret1 (v := .int .i64 (6)) Try.func54 rfl rfl ?_
      exact ⟨_, rfl, al, cl, rs, by rw [renE_bad hmay], ⟨⟨hb, ho, hy, hox, hbx, hbo⟩, hok, hso⟩, by rw [renL_no (by rw [renE_bad hmay]; decide)], fun _ h _ => h, K0⟩
    · replace hb := hb.ext K_6
      replace ho := ho.ext K_6
      replace hy := hy.ext K_6
      replace K0 := K0.ext K_6
      refine RL.val (x_moveT rfl) ?_
      refine RL.val (x_extract rfl rfl) ?_
      refine RL.val (x_extract rfl rfl) ?_
      refine RL.val (x_assignI rfl) ?_
      refine RL.val (x_assignI rfl) ?_
      refine RL.nil ?_
      refine Run.seq ?_
      refine Run.seq ?_
      refine Run.region ?_
      refine RL.val (x_moveI rfl) ?_
      refine RL.val (litT (x_neI rfl rfl) (by decide)) ?_
      refine RL.nil ?_
      refine Run.condT rfl ?_
      refine Run.seq ?_
      refine Run.region ?_
      refine RL.val (x_moveI rfl) ?_
      refine RL.val (x_assignI rfl) ?_
      refine RL.nil ?_
      refine Run.ret1 (v := .int .i64 (20)) Try.func54 rfl rfl ?_
      exact ⟨_, rfl, al, cl, rs, by rw [renER_no hmay hm2 hrno], ⟨⟨hb, ho, hy, hox, hbx, hbo⟩, hok, hso⟩, by rw [renL_no (by rw [renER_no hmay hm2 hrno]; decide)], fun _ h _ => h, K0⟩
    · replace hb := hb.ext K_6
      replace ho := ho.ext K_6
      replace hy := hy.ext K_6
      replace K0 := K0.ext K_6
      have hrl : ri < rs.length := (List.getElem?_eq_some_iff.1 hr).1
      refine RL.val (x_moveT rfl) ?_
      refine RL.val (x_extract rfl rfl) ?_
      refine RL.val (x_extract rfl rfl) ?_
      refine RL.val (x_assignI rfl) ?_
      refine RL.val (x_assignI rfl) ?_
      refine RL.nil ?_
      refine Run.seq ?_
      refine Run.seq ?_
      refine Run.region ?_
      refine RL.val (x_moveI rfl) ?_
      refine RL.val (litF (x_neI rfl rfl) (by decide)) ?_
      refine RL.nil ?_
      refine Run.condF rfl ?_
      refine Run.skip ?_
      refine Run.seq ?_
      have hy_ := hy
      refine Run.region ?_
      refine RL.val (x_moveP rfl) ?_
      refine RL.val (x_nilCheck rfl) ?_
      refine RL.val (x_fld (o' := 1) Try.underlying89 rfl ty87 rfl rfl rfl) ?_
      refine RL.val (x_ld (v := .slice (al) ((rs.map RF.c).length) (cl)) ty87 rfl rfl (hb.cl.field (i := 1) rfl)) ?_
      refine RL.val (x_moveI rfl) ?_
      obtain ⟨b_7, o_8, y, hx, ha_9, hc_10⟩ := ho.sl.el (i := ri) (by first | omega | (simp only [List.length_set]; omega))
      refine RL.val (x_idxN Try.underlying87 ty93 rfl rfl ha_9 (by first | omega | (simp only [List.length_set]; omega))) ?_
      obtain ⟨r_, hr_, hxr⟩ := rf_get hx
      obtain rfl : r = r_ := Option.some.inj (hr.symm.trans hr_)
      have hrb := (hy_.all r (List.mem_of_getElem? hr))
      refine RL.val (litV (v' := .agg #[.string (r.name), .slice (r.a) (r.bytes.length) (r.cap), .int .i64 (((r.synced : Nat) : Int))]) (x_ldV (v := .agg #[.string ((y).name), .slice ((y).b.a) ((y).b.len) ((y).b.cap), .int .i64 ((y).synced)]) (y := y) ty93 rfl hc_10 rfl) (by rw [hxr]; rfl)) ?_
      refine RL.st rfl <| St1.alloc ty93 ?_
      intro b_13 w_14 hl_17 hb_16 K_15
      replace hb_16 : Blk w_14 b_13 [.string (⟨#[]⟩), .slice (none) (0) (0), .int .i64 (0)] 93 := hb_16
      have ne_18 : x < b_13 := Nat.lt_of_lt_of_le hb.lt hl_17
      have ne_19 : b_7 < b_13 := Nat.lt_of_lt_of_le hc_10.lt hl_17
      have pr_20 : ¬ own al b_13 := fun h => absurd (ho.own_lt _ h) (by omega)
      have pr_21 : ¬ bytesS rs b_13 := fun h => absurd (hy.own_lt _ h) (by omega)
      have : w.heap.size ≤ b_13 := Nat.le_trans K0.size hl_17
      clear hl_17
      replace hb := hb.ext K_15
      replace ho := ho.ext K_15
      replace hy := hy.ext K_15
      replace hc_10 := hc_10.ext K_15
      replace K0 := K0.ext K_15
      refine RL.st rfl <| St1.store (v := .agg #[.string (r.name), .slice (r.a) (r.bytes.length) (r.cap), .int .i64 (((r.synced : Nat) : Int))]) ty93 rfl rfl rfl (by simp [Value.cells, Value.oneCell']) hb_16 (by simp) ?_
      intro w_22 hb_16_ K_23
      have hb_16' : Blk w_22 b_13 [.string (r.name), .slice (r.a) (r.bytes.length) (r.cap), .int .i64 (((r.synced : Nat) : Int))] 93 := hb_16_
      clear hb_16_
      replace hb := hb.keep K_23 (by simp only [one]; omega)
      replace ho := ho.keepO K_23 (fun q_ hq_ eq_ => pr_20 (by simp only [one] at eq_; rw [← eq_]; exact hq_))
      replace hy := hy.keepO K_23 (fun q_ hq_ eq_ => pr_21 (by simp only [one] at eq_; rw [← eq_]; exact hq_))
      replace hc_10 := hc_10.keep K_23 (fun e => pr_20 (by simp only [one] at e; rw [← e]; exact (own_sub _) _ ha_9))
      replace K0 := K0.trans K_23 (fun x hlt hx => absurd hlt (by simp only [one] at hx; omega))
      replace hb_16 := hb_16'
      clear hb_16'
      refine RL.nil ?_
      have hz := hy.one hr name2 r.synced
      refine Run.seq ?_
      refine Run.region ?_
      refine RL.val (x_moveS rfl) ?_
      refine RL.val (x_fld (o' := 0) Try.underlying93 rfl ty9 rfl rfl rfl) ?_
      refine RL.st rfl <| St1.store (v := .string (name2)) ty9 rfl rfl rfl (by simp [Value.cells, Value.oneCell']) hb_16 (by simp) ?_
      intro w_24 hb_16_ K_25
      have hb_16' : Blk w_24 b_13 [.string (name2), .slice (r.a) (r.bytes.length) (r.cap), .int .i64 (((r.synced : Nat) : Int))] 93 := hb_16_
      clear hb_16_
      replace hb := hb.keep K_25 (by simp only [one]; omega)
      replace ho := ho.keepO K_25 (fun q_ hq_ eq_ => pr_20 (by simp only [one] at eq_; rw [← eq_]; exact hq_))
      replace hy := hy.keepO K_25 (fun q_ hq_ eq_ => pr_21 (by simp only [one] at eq_; rw [← eq_]; exact hq_))
      replace hz := hz.keepO K_25 (fun q_ hq_ eq_ => (fun h_ => pr_21 (bytesS_one hr name2 r.synced _ h_)) (by simp only [one] at eq_; rw [← eq_]; exact hq_))
      replace K0 := K0.trans K_25 (fun x hlt hx => absurd hlt (by simp only [one] at hx; omega))
      replace hb_16 := hb_16'
      clear hb_16'
      refine RL.nil ?_
      refine Run.seq ?_
      refine Run.region ?_
      refine RL.val (x_moveP rfl) ?_
      refine RL.val (x_moveS rfl) ?_
      refine RL.st rfl <| St1.call (vals := [.pointer (some ⟨x, 0, none⟩), .string (name)]) en66 rfl (withoutR x al cl room rs name _ (⟨hb, ho, hy, hox, hbx, hbo⟩ : RefM _ x al cl room rs) (by omega)) ?_
      rintro _ w_26 ⟨rfl, al_28, cl_29, ⟨hb_30, ho_31, hy_32, hox_33, hbx_34, hbo_35⟩, hnew_36, K_27⟩
      have pr_37 : ¬ own al_28 x := notNew hnew_36 hb.lt
      have pr_38 : ∀ q_, own al_28 q_ → ¬ own al q_ := apartNew hnew_36 ho.own_lt
      have pr_39 : ∀ q_, own al_28 q_ → ¬ bytesS rs q_ := apartNew hnew_36 hy.own_lt
      have pr_40 : ¬ own al_28 b_13 := notNew hnew_36 hb_16.lt
      have pr_41 : ∀ q_, own al_28 q_ → ¬ bytesS [(⟨name2, r.a, r.cap, r.bytes, r.synced⟩ : RF)] q_ := apartNew hnew_36 hz.own_lt
      have pg_42 : ∀ q_, own al_28 q_ → q_ < w.heap.size → (refS x al rs) q_ := fun q_ h hlt => absurd (Nat.le_trans K0.size (hnew_36 q_ h)) (by omega)
      have pw_43 : ∀ q_, own al_28 q_ → w.heap.size ≤ q_ := fun q_ h => Nat.le_trans K0.size (hnew_36 q_ h)
      have pr_44 : ∀ q_, writeS x al q_ → ¬ bytesS rs q_ := fun q_ x_ z_ => ((fun q_ h_ => h_) _ x_).elim (fun e_ => hbx (show bytesS rs x from e_ ▸ z_)) (fun y_ => (fun y_ => (fun q_ h1 h2 => hbo q_ h2 h1) q_ y_ z_) y_)
      have pr_45 : ¬ writeS x al b_13 := fun x_ => ((fun q_ h_ => h_) _ x_).elim (fun e_ => absurd e_ (by omega)) (fun y_ => pr_20 y_)
      have pr_46 : ∀ q_, writeS x al q_ → ¬ bytesS [(⟨name2, r.a, r.cap, r.bytes, r.synced⟩ : RF)] q_ := fun q_ x_ z_ => ((fun q_ h_ => h_) _ x_).elim (fun e_ => (fun h_ => hbx (bytesS_one hr name2 r.synced _ h_)) (show bytesS [(⟨name2, r.a, r.cap, r.bytes, r.synced⟩ : RF)] x from e_ ▸ z_)) (fun y_ => (fun y_ => (fun q_ h1 h2 => (fun q_ h_ h2 => hbo q_ (bytesS_one hr name2 r.synced q_ h_) h2) q_ h2 h1) q_ y_ z_) y_)
      have pg_47 : ∀ q_, writeS x al q_ → q_ < w.heap.size → (refS x al rs) q_ := fun q_ x_ hl_ => ((fun q_ h_ => h_) _ x_).elim (fun e_ => e_ ▸ (Or.inl (Or.inl rfl))) (fun y_ => (fun y_ => (fun q_ h_ _ => Or.inl (Or.inr h_)) q_ y_ hl_) y_)
      replace hb_16 := hb_16.keep K_27 pr_45
      replace hz := hz.keepO K_27 (fun q_ h1 h2 => pr_46 q_ h2 h1)
      replace K0 := K0.trans K_27 (fun x hlt hx => pg_47 x hx hlt)
      clear hb ho hy
      have hb := hb_30
      have hkl_hy_32 : (keepR name rs rs.length).length ≤ 65 := by have := keepR_len name rs rs.length; omega
      refine RL.nil ?_
      refine Run.seq ?_
      refine Run.region ?_
      refine RL.val (x_moveP rfl) ?_
      refine RL.val (x_moveS rfl) ?_
      refine RL.st rfl <| St1.call (vals := [.pointer (some ⟨x, 0, none⟩), .string (name2)]) en66 rfl (withoutR x al_28 cl_29 room (keepR name rs rs.length) name2 _ (⟨hb, ho_31, hy_32, hox_33, hbx_34, hbo_35⟩ : RefM _ x al_28 cl_29 room (keepR name rs rs.length)) (by omega)) ?_
      rintro _ w_48 ⟨rfl, al_50, cl_51, ⟨hb_52, ho_53, hy_54, hox_55, hbx_56, hbo_57⟩, hnew_58, K_49⟩
      have pr_59 : ¬ own al_50 b_13 := notNew hnew_58 hb_16.lt
      have pr_60 : ∀ q_, own al_50 q_ → ¬ bytesS [(⟨name2, r.a, r.cap, r.bytes, r.synced⟩ : RF)] q_ := apartNew hnew_58 hz.own_lt
      have pr_61 : ¬ own al_50 x := notNew hnew_58 hb.lt
      have pr_62 : ∀ q_, own al_50 q_ → ¬ own al_28 q_ := apartNew hnew_58 ho_31.own_lt
      have pr_63 : ∀ q_, own al_50 q_ → ¬ bytesS (keepR name rs rs.length) q_ := apartNew hnew_58 hy_32.own_lt
      have pg_64 : ∀ q_, own al_50 q_ → q_ < w.heap.size → (refS x al rs) q_ := fun q_ h hlt => absurd (Nat.le_trans K0.size (hnew_58 q_ h)) (by omega)
      have pw_65 : ∀ q_, own al_50 q_ → w.heap.size ≤ q_ := fun q_ h => Nat.le_trans K0.size (hnew_58 q_ h)
      have pr_66 : ¬ writeS x al_28 b_13 := fun x_ => ((fun q_ h_ => h_) _ x_).elim (fun e_ => absurd e_ (by omega)) (fun y_ => pr_40 y_)
      have pr_67 : ∀ q_, writeS x al_28 q_ → ¬ bytesS [(⟨name2, r.a, r.cap, r.bytes, r.synced⟩ : RF)] q_ := fun q_ x_ z_ => ((fun q_ h_ => h_) _ x_).elim (fun e_ => (fun h_ => hbx (bytesS_one hr name2 r.synced _ h_)) (show bytesS [(⟨name2, r.a, r.cap, r.bytes, r.synced⟩ : RF)] x from e_ ▸ z_)) (fun y_ => (fun y_ => pr_41 q_ y_ z_) y_)
      have pr_68 : ∀ q_, writeS x al_28 q_ → ¬ bytesS (keepR name rs rs.length) q_ := fun q_ x_ z_ => ((fun q_ h_ => h_) _ x_).elim (fun e_ => hbx_34 (show bytesS (keepR name rs rs.length) x from e_ ▸ z_)) (fun y_ => (fun y_ => (fun q_ h1 h2 => hbo_35 q_ h2 h1) q_ y_ z_) y_)
      have pg_69 : ∀ q_, writeS x al_28 q_ → q_ < w.heap.size → (refS x al rs) q_ := fun q_ x_ hl_ => ((fun q_ h_ => h_) _ x_).elim (fun e_ => e_ ▸ (Or.inl (Or.inl rfl))) (fun y_ => (fun y_ => pg_42 q_ y_ hl_) y_)
      replace hb_16 := hb_16.keep K_49 pr_66
      replace hz := hz.keepO K_49 (fun q_ h1 h2 => pr_67 q_ h2 h1)
      replace K0 := K0.trans K_49 (fun x hlt hx => pg_69 x hx hlt)
      clear hb ho_31 hy_32
      have hb := hb_52
      have hkl_hy_54 : (keepR name2 (keepR name rs rs.length) (keepR name rs rs.length).length).length ≤ 65 := by have := keepR_len name2 (keepR name rs rs.length) (keepR name rs rs.length).length; omega
      refine RL.nil ?_
      refine Run.seq ?_
      refine Run.region ?_
      refine RL.val (x_moveP rfl) ?_
      refine RL.val (x_lds (cs := #[.string (name2), .slice (r.a) (r.bytes.length) (r.cap), .int .i64 (((r.synced : Nat) : Int))]) ty93 rfl rfl (hb_16.cl.drop 0 3)) ?_
      refine RL.st rfl <| St1.call (vals := [.pointer (some ⟨x, 0, none⟩), .agg #[.string (name2), .slice (r.a) (r.bytes.length) (r.cap), .int .i64 (((r.synced : Nat) : Int))]]) en64 rfl (putR x al_50 cl_51 room (keepR name2 (keepR name rs rs.length) (keepR name rs rs.length).length) (⟨name2, r.a, r.cap, r.bytes, r.synced⟩ : RF) _ (⟨hb, ho_53, hy_54, hox_55, hbx_56, hbo_57⟩ : RefM _ x al_50 cl_51 room (keepR name2 (keepR name rs rs.length) (keepR name rs rs.length).length)) (by omega) hz (fun h_ => hbx (bytesS_one hr name2 r.synced _ h_)) (fun q_ h1 h2 => pr_60 q_ h2 h1)) ?_
      rintro _ w_70 ⟨rfl, al_72, cl_73, ⟨hb_74, ho_75, hy_76, hox_77, hbx_78, hbo_79⟩, hnew_80, K_71⟩
      have pr_81 : ¬ own al_72 b_13 := notNew hnew_80 hb_16.lt
      have pr_82 : ∀ q_, own al_72 q_ → ¬ bytesS [(⟨name2, r.a, r.cap, r.bytes, r.synced⟩ : RF)] q_ := apartNew hnew_80 hz.own_lt
      have pr_83 : ¬ own al_72 x := notNew hnew_80 hb.lt
      have pr_84 : ∀ q_, own al_72 q_ → ¬ own al_50 q_ := apartNew hnew_80 ho_53.own_lt
      have pr_85 : ∀ q_, own al_72 q_ → ¬ bytesS (keepR name2 (keepR name rs rs.length) (keepR name rs rs.length).length) q_ := apartNew hnew_80 hy_54.own_lt
      have pg_86 : ∀ q_, own al_72 q_ → q_ < w.heap.size → (refS x al rs) q_ := fun q_ h hlt => absurd (Nat.le_trans K0.size (hnew_80 q_ h)) (by omega)
      have pw_87 : ∀ q_, own al_72 q_ → w.heap.size ≤ q_ := fun q_ h => Nat.le_trans K0.size (hnew_80 q_ h)
      have pr_88 : ¬ writeS x al_50 b_13 := fun x_ => ((fun q_ h_ => h_) _ x_).elim (fun e_ => absurd e_ (by omega)) (fun y_ => pr_59 y_)
      have pr_89 : ∀ q_, writeS x al_50 q_ → ¬ bytesS [(⟨name2, r.a, r.cap, r.bytes, r.synced⟩ : RF)] q_ := fun q_ x_ z_ => ((fun q_ h_ => h_) _ x_).elim (fun e_ => (fun h_ => hbx (bytesS_one hr name2 r.synced _ h_)) (show bytesS [(⟨name2, r.a, r.cap, r.bytes, r.synced⟩ : RF)] x from e_ ▸ z_)) (fun y_ => (fun y_ => pr_60 q_ y_ z_) y_)
      have pr_90 : ∀ q_, writeS x al_50 q_ → ¬ bytesS (keepR name2 (keepR name rs rs.length) (keepR name rs rs.length).length) q_ := fun q_ x_ z_ => ((fun q_ h_ => h_) _ x_).elim (fun e_ => hbx_56 (show bytesS (keepR name2 (keepR name rs rs.length) (keepR name rs rs.length).length) x from e_ ▸ z_)) (fun y_ => (fun y_ => (fun q_ h1 h2 => hbo_57 q_ h2 h1) q_ y_ z_) y_)
      have pg_91 : ∀ q_, writeS x al_50 q_ → q_ < w.heap.size → (refS x al rs) q_ := fun q_ x_ hl_ => ((fun q_ h_ => h_) _ x_).elim (fun e_ => e_ ▸ (Or.inl (Or.inl rfl))) (fun y_ => (fun y_ => pg_64 q_ y_ hl_) y_)
      replace hb_16 := hb_16.keep K_71 pr_88
      replace hz := hz.keepO K_71 (fun q_ h1 h2 => pr_89 q_ h2 h1)
      replace K0 := K0.trans K_71 (fun x hlt hx => pg_91 x hx hlt)
      clear hb ho_53 hy_54
      have hb := hb_74
      refine RL.nil ?_
      refine Run.seq ?_
      refine Run.region ?_
      refine RL.val (x_assignI rfl) ?_
      refine RL.nil ?_
      refine Run.ret1 (v := .int .i64 (0)) Try.func54 rfl rfl ?_
      have hpm := renR_in (r0 := (⟨name2, r.a, r.cap, r.bytes, r.synced⟩ : RF)) rfl hok hmay hm2 hr hrn
      exact ⟨_, rfl, al_72, cl_73, _, by rw [renER_in hmay hm2 hr hrn], ⟨(⟨hb, ho_75, hy_76, hox_77, hbx_78, hbo_79⟩ : RefM _ x al_72 cl_73 room (insR (⟨name2, r.a, r.cap, r.bytes, r.synced⟩ : RF) (keepR name2 (keepR name rs rs.length) (keepR name rs rs.length).length))), (hok.ren.perm hpm.symm), (insR_sorted (SortedL.keep (SortedL.keep hso name) name2) keepR_no')⟩, hpm, fun q_ h_ hl_ => h_.elim (fun h_ => h_.elim (fun e_ => Or.inl (Or.inl e_)) (fun h_ => pg_86 q_ h_ hl_)) (fun h_ => (bytesS_ins q_ h_).elim (fun y_ => Or.inr (bytesS_one hr name2 r.synced q_ y_)) (fun y_ => Or.inr (bytesS_sub (keepR_sub name rs rs.length) q_ (bytesS_sub (keepR_sub name2 _ _) q_ y_)))), K0⟩

set_option maxRecDepth 100000 in
set_option maxHeartbeats 4000000 in
theorem wipeR (x : Nat) (al : Option Addr) (cl : Nat) (room : Int) (rs : List RF) (w : World) (hD : RefO w x al cl room rs) :
    Calls Try.prog 57 #[.pointer (some ⟨x, 0, none⟩)] w (Ret (fun v w' => v = .tuple #[] ∧ ∃ al' cl', RefO w' x al' cl' room [] ∧ (∀ q, refS x al' [] q → q < w.heap.size → refS x al rs q) ∧ Keeps (refS x al rs) w w')) := by
  obtain ⟨⟨hb, ho, hy, hox, hbx, hbo⟩, hok, hso⟩ := hD
  have hml : (rs.map RF.c).length = rs.length := List.length_map ..
  have hnd := RefO.names hok
  have hl : rs.length ≤ 64 := by have := hok.len; rwa [List.length_map] at this
  have hroom := hok.room
  have hused := hok.used
  refine calls_run (n := 5) Try.func57 rfl rfl rfl ?_
  refine Run.region ?_
  refine RL.val (x_moveP rfl) ?_
  refine RL.val (x_nilCheck rfl) ?_
  refine RL.val (x_fld (o' := 1) Try.underlying89 rfl ty87 rfl rfl rfl) ?_
  refine RL.st rfl <| St1.store (v := .slice (none) (0) (0)) ty87 rfl rfl rfl (by simp [Value.cells, Value.oneCell']) hb (by simp) ?_
  intro w_1 hb_ K_2
  have hb' : Blk w_1 x [.int .i64 (room), .slice (none) (0) (0)] 89 := hb_
  clear hb_
  replace ho := ho.keepO K_2 (fun q_ hq_ eq_ => hox (by simp only [one] at eq_; rw [← eq_]; exact hq_))
  replace hy := hy.keepO K_2 (fun q_ hq_ eq_ => hbx (by simp only [one] at eq_; rw [← eq_]; exact hq_))
  have K0 := (Keeps.refl (refS x al rs) w).trans K_2 (fun x _ hx => by simp only [one] at hx; subst hx; exact (Or.inl (Or.inl rfl)))
  replace hb := hb'
  clear hb'
  refine RL.nil ?_
  refine Run.fin0 Try.func57 rfl ?_
  exact ⟨_, rfl, rfl, none, 0, ⟨⟨hb, OwnSl.nil _ _, BytesAt.nil _, own_none x, fun ⟨_, h_, _⟩ => absurd h_ (by simp), fun q ⟨_, h_, _⟩ => absurd h_ (by simp)⟩, hok.nil, List.Pairwise.nil⟩, fun q h_ hl_ => h_.elim (fun h_ => h_.elim (fun e_ => Or.inl (Or.inl e_)) (fun h_ => absurd h_ (own_none q))) (fun ⟨_, h_, _⟩ => absurd h_ (by simp)), K0⟩

set_option maxRecDepth 100000 in
set_option maxHeartbeats 4000000 in
theorem newR (room : Int) (w : World) :
    Calls Try.prog 29 #[.int .i64 (room)] w (Ret (fun v w' => (¬ (0 ≤ room ∧ room ≤ 16777216) ∧ v = .tuple #[.pointer none, .int .i64 1] ∧ Ext w w') ∨ ((0 ≤ room ∧ room ≤ 16777216) ∧ ∃ x, v = .tuple #[.pointer (some ⟨x, 0, none⟩), .int .i64 0] ∧ RefO w' x none 0 room [] ∧ (∀ q, refS x none [] q → w.heap.size ≤ q) ∧ Ext w w'))) := by
  refine calls_run (n := 13) Try.func29 rfl rfl rfl ?_
  refine Run.seq ?_
  refine Run.region ?_
  refine RL.val (x_assignP rfl) ?_
  refine RL.val (x_assignI rfl) ?_
  refine RL.nil ?_
  refine Run.seq ?_
  refine Run.seq ?_
  refine Run.region ?_
  refine RL.val (x_moveI rfl) ?_
  refine RL.val (x_ltI rfl rfl) ?_
  refine RL.val (x_moveB rfl) ?_
  refine RL.gval (wantedF rfl rfl rfl rfl) (fun hg => (x_moveI rfl)) ?_
  refine RL.gval (wantedF rfl rfl rfl rfl) (fun hg => (x_gtI (gvr hg) rfl)) ?_
  refine RL.val (x_or rfl rfl rfl) ?_
  refine RL.nil ?_
  refine Run.cond rfl (fun hc9 => ?_) (fun hc9 => ?_)
  · try simp only [br] at hc9
    refine Run.seq ?_
    refine Run.region ?_
    refine RL.val (x_assignP rfl) ?_
    refine RL.val (x_assignI rfl) ?_
    refine RL.nil ?_
    refine Run.ret2 (v := .pointer none) (x := .int .i64 (1)) Try.func29 rfl rfl rfl ?_
    exact ⟨_, rfl, .inl ⟨by omega, rfl, Keeps.refl _ w⟩⟩
  · try simp only [br] at hc9
    refine Run.skip ?_
    refine Run.seq ?_
    refine Run.region ?_
    refine RL.val (x_moveI rfl) ?_
    refine RL.val (x_build (cells := #[.int .i64 (room), .slice (none) (0) (0)]) (by kernel_rfl)) ?_
    refine RL.st rfl <| St1.box (v := .agg #[.int .i64 (room), .slice (none) (0) (0)]) rfl ?_
    intro b_1 w_2 hl_5 hb_4 K_3
    replace hb_4 : Blk w_2 b_1 [.int .i64 (room), .slice (none) (0) (0)] 89 := hb_4
    have : w.heap.size ≤ b_1 := hl_5
    clear hl_5
    have K0 := (K_3 : Ext w _)
    refine RL.val (x_assignP rfl) ?_
    refine RL.val (x_assignI rfl) ?_
    refine RL.nil ?_
    refine Run.ret2 (v := .pointer (some ⟨b_1, 0, none⟩)) (x := .int .i64 (0)) Try.func29 rfl rfl rfl ?_
    exact ⟨_, rfl, .inr ⟨by omega, b_1, rfl, ⟨⟨hb_4, OwnSl.nil _ _, BytesAt.nil _, own_none _, fun ⟨_, h_, _⟩ => absurd h_ (by simp), fun q ⟨_, h_, _⟩ => absurd h_ (by simp)⟩, ⟨by simp, fun _ h => absurd h (by simp), fun _ h => absurd h (by simp), by simp [usedL]; omega, by simp, by omega⟩, List.Pairwise.nil⟩, fun q h_ => h_.elim (fun h_ => h_.elim (fun e_ => by rw [e_]; omega) (fun h_ => absurd h_ (own_none q))) (fun ⟨_, h_, _⟩ => absurd h_ (by simp)), K0⟩⟩

end Go.Proofs.Ytambibdkanpmaaa
