/-
  Layer 7: Open, Append, Sync.
-/
import Derived.Test.YtnphndfbgdkgbaaGreatDoorRows
import Derived.Test.YtnphndfbgdkgbaaGreatDoorYd
namespace Go.Proofs.YtnphndfbgdkgbaaGreatDoor
attribute [local irreducible] St1 RL RA RT RT1 Run
attribute [local irreducible] crcN crcL crcS crcB numL leL unfR nameS segsL sortZ segI segO hasP restP

def mayP (b : List UInt8) : Int := if b = [] then 1 else if 65536 < b.length then 4 else 0
theorem mayP_ok {b : List UInt8} (h : mayP b = 0) : b ≠ [] ∧ b.length ≤ 65536 := by
  rw [mayP] at h
  split at h
  · cases h
  · split at h
    · cases h
    · exact ⟨by assumption, by omega⟩
def syncsL (pl : List PF) (ns : List Int) : List PF := pl.map fun f => if ns.any (fun n => decide (f.name = nameS n)) then { f with synced := f.bytes.length } else f
theorem syncsL_nil (pl : List PF) : syncsL pl [] = pl := by rw [syncsL]; simp
theorem syncsL_snoc (pl : List PF) (ns : List Int) (n : Int) : syncsL pl (ns ++ [n]) = syncL (syncsL pl ns) (nameS n) := by
  rw [syncsL, syncL, updL, syncsL, List.map_map]
  refine List.map_congr_left fun f _ => ?_
  simp only [Function.comp, List.any_append, List.any_cons, List.any_nil, Bool.or_false, Bool.or_eq_true, decide_eq_true_eq]
  generalize ns.any (fun n => decide (f.name = nameS n)) = b
  cases b <;> by_cases h2 : f.name = nameS n <;> simp [h2]
theorem syncsL_at {pl : List PF} {ns : List Int} {i : Nat} {n : Int} (h : ns[i]? = some n) : syncsL pl (ns.take (i + 1)) = syncL (syncsL pl (ns.take i)) (nameS n) := by
  obtain ⟨hi, rfl⟩ := List.getElem?_eq_some_iff.1 h
  rw [List.take_succ_eq_append_getElem hi, syncsL_snoc]
theorem has_syncs {pl : List PF} {ns : List Int} {s : ByteArray} (h : hasL pl s = true) : hasL (syncsL pl ns) s = true := by
  obtain ⟨f, hf, rfl⟩ := hasL_iff.1 h
  refine hasL_iff.2 ⟨_, List.mem_map.2 ⟨f, hf, rfl⟩, ?_⟩
  split <;> rfl
theorem rem_no {pl : List PF} {s : ByteArray} (h : hasL pl s = false) : remL pl s = pl := by
  rw [remL, List.filter_eq_self]
  intro f hf
  simp only [decide_eq_true_eq]
  exact fun e => by rw [hasL_iff.2 ⟨f, hf, e⟩] at h; cases h
theorem fresh_may : mayN freshN = true := by decide +kernel
theorem look_fresh_no {pl : List PF} (h : hasL pl freshN = false) : lookE pl freshN = 20 := by rw [lookE, if_pos fresh_may, h]; rfl
noncomputable def readAll (room : Int) (pl : List PF) : Int × List (List UInt8) × List PF := readP room pl (segsL pl) []
noncomputable def openP (room : Int) (pl : List PF) : Int × List (List UInt8) × List PF :=
  if (readAll room (remL pl freshN)).1 = 0 then (0, (readAll room (remL pl freshN)).2.1, syncsL (readAll room (remL pl freshN)).2.2 (segsL (readAll room (remL pl freshN)).2.2))
  else ((readAll room (remL pl freshN)).1, [], (readAll room (remL pl freshN)).2.2)
noncomputable def appendP (room : Int) (pl : List PF) (xs : List UInt8) : Int × List PF :=
  if mayP xs ≠ 0 then (mayP xs, pl) else
  if 0 < lastP pl ∧ 4096 ≤ sizeB pl (nameS (lastP pl)) then
    (if 999999999 < max (lastP pl + 1) 1 then (70, syncL pl (nameS (lastP pl))) else (appE room (syncL pl (nameS (lastP pl))) (nameS (max (lastP pl + 1) 1)) (frameB xs), appL room (syncL pl (nameS (lastP pl))) (nameS (max (lastP pl + 1) 1)) (frameB xs)))
  else (if 999999999 < max (lastP pl) 1 then (70, pl) else (appE room pl (nameS (max (lastP pl) 1)) (frameB xs), appL room pl (nameS (max (lastP pl) 1)) (frameB xs)))
noncomputable def syncP (pl : List PF) : List PF := if lastP pl = 0 then pl else syncL pl (nameS (lastP pl))
theorem last_mem {pl : List PF} (h : lastP pl ≠ 0) : lastP pl ∈ segsL pl := by
  rw [lastP] at h ⊢
  cases hl : (segsL pl).getLast? with
  | none => rw [hl] at h; exact absurd rfl h
  | some x => exact List.mem_of_getLast? hl
theorem last_le (pl : List PF) : 0 ≤ lastP pl ∧ lastP pl ≤ 999999999 := by
  by_cases h : lastP pl = 0
  · omega
  · have := segsL_mem.1 (last_mem h); omega
theorem sizeDE {w : World} {d : Nat} {F : Nat → Prop} {room : Int} {pl : List PF} (h : DiskAt w d F room pl) (name : ByteArray) (hs : name.size ≤ 4294967295) (E : Int) (he : lookE pl name = E) : Calls Tryz.prog 65 #[.pointer (some ⟨d, 0, none⟩), .string name] w
    (Ret fun v w' => v = .tuple #[.int .i64 ((sizeB pl name : Nat) : Int), .int .i64 ((syncB pl name : Nat) : Int), .int .i64 E] ∧ Ext w w') := he ▸ sizeD h name hs
attribute [local irreducible] readAll mayP frameB

theorem ty120 : Ty Tryz.prog 120 1 8 (.agg #[.pointer none]) true := ty_of (by kernel_rfl) (by kernel_rfl)
theorem en62 : Enters Tryz.prog 62 := enters_of Tryz.func62 rfl (by kernel_rfl)
theorem en63 : Enters Tryz.prog 63 := enters_of Tryz.func63 rfl (by kernel_rfl)
theorem en64 : Enters Tryz.prog 64 := enters_of Tryz.func64 rfl (by kernel_rfl)
theorem en68 : Enters Tryz.prog 68 := enters_of Tryz.func68 rfl (by kernel_rfl)
theorem en83 : Enters Tryz.prog 83 := enters_of Tryz.func83 rfl (by kernel_rfl)
theorem en86 : Enters Tryz.prog 86 := enters_of Tryz.func86 rfl (by kernel_rfl)
theorem en134 : Enters Tryz.prog 134 := enters_of Tryz.func134 rfl (by kernel_rfl)

set_option maxRecDepth 100000 in
set_option maxHeartbeats 4000000 in
theorem lmade_ (b d : Nat) (F : Nat → Prop) (room : Int) (pl : List PF) (w : World) (hb : Blk w b [.pointer (some ⟨d, 0, none⟩)] 122) (hD : DiskAt w d F room pl) (hbd : ¬ F b) (hL : LaidOk w) :
    Calls Tryz.prog 62 #[.pointer (some ⟨b, 0, none⟩)] w (Ret (fun v w' => v = .bool true ∧ Ext w w')) := by
  have hLs := hL.size
  refine calls_run (n := 13) Tryz.func62 rfl rfl rfl ?_
  refine Run.seq ?_
  refine Run.region ?_
  refine RL.val (x_assignB rfl) ?_
  refine RL.nil ?_
  refine Run.seq ?_
  refine Run.region ?_
  refine RL.val (x_moveP rfl) ?_
  refine RL.val (litT (x_ptrNotNil Tryz.underlying30 rfl rfl) rfl) ?_
  refine RL.val (x_moveB rfl) ?_
  refine RL.gst (wantedT1 rfl rfl rfl rfl) <| St1.val (x_moveP rfl) ?_
  refine RL.gst (wantedT1 rfl rfl rfl rfl) <| St1.val (x_nilCheck rfl) ?_
  refine RL.gst (wantedT1 rfl rfl rfl rfl) <| St1.val (x_fld (o' := 0) Tryz.underlying122 rfl ty120 rfl rfl rfl) ?_
  refine RL.gst (wantedT1 rfl rfl rfl rfl) <| St1.val (x_fld (o' := 0) Tryz.underlying120 rfl ty62 rfl rfl rfl) ?_
  refine RL.gst (wantedT1 rfl rfl rfl rfl) <| St1.val (x_ld (v := .pointer (some ⟨d, 0, none⟩)) ty62 rfl rfl (hb.cl.field (i := 0) rfl)) ?_
  refine RL.gst (wantedT1 rfl rfl rfl rfl) <| St1.val (litT (x_ptrNotNil Tryz.underlying62 rfl rfl) rfl) ?_
  refine RL.val (x_andT rfl rfl rfl) ?_
  refine RL.val (x_assignB rfl) ?_
  refine RL.nil ?_
  refine Run.ret1 (v := .bool (true)) Tryz.func62 rfl rfl ?_
  exact ⟨_, rfl, rfl, (Keeps.refl _ w)⟩

set_option maxRecDepth 100000 in
set_option maxHeartbeats 4000000 in
theorem recMay_ (a : Option Addr) (xs : List UInt8) (c : Nat) (w : World) :
    Calls Tryz.prog 63 #[.slice (a) (xs.length) (c)] w (Ret (fun v w' => v = .int .i64 (mayP xs) ∧ Ext w w')) := by
  refine calls_run (n := 11) Tryz.func63 rfl rfl rfl ?_
  refine Run.seq ?_
  refine Run.region ?_
  refine RL.val (x_assignI rfl) ?_
  refine RL.nil ?_
  refine Run.seq ?_
  refine Run.block ?_
  refine Run.seq ?_
  refine Run.region ?_
  refine RL.val (x_moveSl rfl) ?_
  refine RL.val (x_lenSl Tryz.underlying74 rfl) ?_
  refine RL.val (x_eqI rfl rfl) ?_
  refine RL.val (x_assignB rfl) ?_
  refine RL.nil ?_
  refine Run.cond rfl (fun hc3 => ?_) (fun hc3 => ?_)
  · try simp only [br] at hc3
    refine Run.seq ?_
    refine Run.region ?_
    refine RL.val (x_assignI rfl) ?_
    refine RL.nil ?_
    refine Run.ret1 (v := .int .i64 (1)) Tryz.func63 rfl rfl ?_
    exact ⟨_, rfl, by unfold mayP; rw [if_pos (List.eq_nil_of_length_eq_zero (by omega))], (Keeps.refl _ w)⟩
  · try simp only [br] at hc3
    refine Run.seq ?_
    refine Run.region ?_
    refine RL.val (x_moveSl rfl) ?_
    refine RL.val (x_lenSl Tryz.underlying74 rfl) ?_
    refine RL.val (x_gtI rfl rfl) ?_
    refine RL.val (x_assignB rfl) ?_
    refine RL.nil ?_
    refine Run.cond rfl (fun hc7 => ?_) (fun hc7 => ?_)
    · try simp only [br] at hc7
      refine Run.seq ?_
      refine Run.region ?_
      refine RL.val (x_assignI rfl) ?_
      refine RL.nil ?_
      refine Run.ret1 (v := .int .i64 (4)) Tryz.func63 rfl rfl ?_
      exact ⟨_, rfl, by unfold mayP; rw [if_neg (ne_of_len (by omega)), if_pos (by omega)], (Keeps.refl _ w)⟩
    · try simp only [br] at hc7
      refine Run.skip ?_
      refine Run.inBlock ?_
      refine Run.seq ?_
      refine Run.region ?_
      refine RL.val (x_assignI rfl) ?_
      refine RL.nil ?_
      refine Run.ret1 (v := .int .i64 (0)) Tryz.func63 rfl rfl ?_
      exact ⟨_, rfl, by unfold mayP; rw [if_neg (ne_of_len (by omega)), if_neg (by omega)], (Keeps.refl _ w)⟩

set_option maxRecDepth 100000 in
set_option maxHeartbeats 4000000 in
theorem lsegs_ (b d : Nat) (F : Nat → Prop) (room : Int) (pl : List PF) (w : World) (hb : Blk w b [.pointer (some ⟨d, 0, none⟩)] 122) (hD : DiskAt w d F room pl) (hbd : ¬ F b) (hL : LaidOk w) :
    Calls Tryz.prog 83 #[.pointer (some ⟨b, 0, none⟩)] w (Ret (fun v w' => ∃ a' c', v = .slice a' (segsL pl).length c' ∧ OwnSl w' 3 a' c' (segsL pl) ∧ (∀ q, own a' q → w.heap.size ≤ q) ∧ Ext w w')) := by
  have hLs := hL.size
  have hok := hD.ok
  have hlen := hok.len
  have hsl := segsL_len pl
  refine calls_run (n := 10) Tryz.func83 rfl rfl rfl ?_
  refine Run.seq ?_
  refine Run.region ?_
  refine RL.val (x_assignSl rfl) ?_
  refine RL.nil ?_
  refine Run.seq ?_
  refine Run.seq ?_
  refine Run.region ?_
  refine RL.val (x_moveP rfl) ?_
  refine RL.st rfl <| St1.call (vals := [.pointer (some ⟨b, 0, none⟩)]) en62 rfl (lmade_ _ _ _ _ _ _ hb hD hbd hL) ?_
  rintro _ w_1 ⟨rfl, K_2⟩
  replace hb := hb.ext K_2
  replace hD := hD.ext K_2
  replace hL := hL.ext K_2
  have K0 := (K_2 : Ext w _)
  refine RL.val (x_not (b := true) rfl) ?_
  refine RL.nil ?_
  refine Run.condF rfl ?_
  refine Run.skip ?_
  refine Run.seq ?_
  refine Run.region ?_
  refine RL.val (x_moveP rfl) ?_
  refine RL.val (x_nilCheck rfl) ?_
  refine RL.val (x_fld (o' := 0) Tryz.underlying122 rfl ty120 rfl rfl rfl) ?_
  refine RL.st rfl <| St1.call (vals := [.pointer (some ⟨b, 0, none⟩)]) en116 rfl (segs_ _ _ _ _ _ _ hb hD hbd hL) ?_
  rintro _ w_5 ⟨a_3, c_4, rfl, ho_6, hg_7, K_8⟩
  have pr_9 : ¬ own a_3 b := notNew hg_7 hb.lt
  have pr_10 : ∀ q_, own a_3 q_ → ¬ F q_ := apartNew hg_7 hD.own_lt
  have pg_11 : ∀ q_, own a_3 q_ → w.heap.size ≤ q_ := fun q_ h => Nat.le_trans K0.size (hg_7 q_ h)
  clear hg_7
  replace hb := hb.ext K_8
  replace hD := hD.ext K_8
  replace hL := hL.ext K_8
  replace K0 := K0.ext K_8
  refine RL.val (x_assignSl rfl) ?_
  refine RL.nil ?_
  refine Run.ret1 (v := .slice (a_3) ((segsL pl).length) (c_4)) Tryz.func83 rfl rfl ?_
  exact ⟨_, rfl, a_3, c_4, rfl, ho_6, pg_11, K0⟩

set_option maxRecDepth 100000 in
set_option maxHeartbeats 4000000 in
theorem lbytes_ (b d : Nat) (F : Nat → Prop) (room : Int) (pl : List PF) (w : World) (hb : Blk w b [.pointer (some ⟨d, 0, none⟩)] 122) (hD : DiskAt w d F room pl) (hbd : ¬ F b) (hL : LaidOk w) :
    Calls Tryz.prog 43 #[.pointer (some ⟨b, 0, none⟩)] w (Ret (fun v w' => v = .int .i64 ((bytesP pl (segsL pl) : Nat) : Int) ∧ Ext w w')) := by
  have hLs := hL.size
  have hok := hD.ok
  have hlen := hok.len
  have hsl := segsL_len pl
  refine calls_run (n := 10) Tryz.func43 rfl rfl rfl ?_
  refine Run.seq ?_
  refine Run.region ?_
  refine RL.val (x_assignI rfl) ?_
  refine RL.nil ?_
  refine Run.seq ?_
  refine Run.seq ?_
  refine Run.region ?_
  refine RL.val (x_moveP rfl) ?_
  refine RL.st rfl <| St1.call (vals := [.pointer (some ⟨b, 0, none⟩)]) en62 rfl (lmade_ _ _ _ _ _ _ hb hD hbd hL) ?_
  rintro _ w_1 ⟨rfl, K_2⟩
  replace hb := hb.ext K_2
  replace hD := hD.ext K_2
  replace hL := hL.ext K_2
  have K0 := (K_2 : Ext w _)
  refine RL.val (x_not (b := true) rfl) ?_
  refine RL.nil ?_
  refine Run.condF rfl ?_
  refine Run.skip ?_
  refine Run.seq ?_
  refine Run.region ?_
  refine RL.val (x_moveP rfl) ?_
  refine RL.val (x_nilCheck rfl) ?_
  refine RL.val (x_fld (o' := 0) Tryz.underlying122 rfl ty120 rfl rfl rfl) ?_
  refine RL.st rfl <| St1.call (vals := [.pointer (some ⟨b, 0, none⟩)]) en86 rfl (fbytes_ _ _ _ _ _ _ hb hD hbd hL) ?_
  rintro _ w_3 ⟨rfl, K_4⟩
  replace hb := hb.ext K_4
  replace hD := hD.ext K_4
  replace hL := hL.ext K_4
  replace K0 := K0.ext K_4
  refine RL.val (x_assignI rfl) ?_
  refine RL.nil ?_
  refine Run.ret1 (v := .int .i64 (((bytesP pl (segsL pl) : Nat) : Int))) Tryz.func43 rfl rfl ?_
  exact ⟨_, rfl, rfl, K0⟩

set_option maxRecDepth 100000 in
set_option maxHeartbeats 4000000 in
theorem lsync_ (b d : Nat) (F : Nat → Prop) (room : Int) (pl : List PF) (w : World) (hb : Blk w b [.pointer (some ⟨d, 0, none⟩)] 122) (hD : DiskAt w d F room pl) (hbd : ¬ F b) (hL : LaidOk w) (hFG : ∀ q, F q → 7 ≤ q) :
    Calls Tryz.prog 40 #[.pointer (some ⟨b, 0, none⟩)] w (Ret (DStep d F room w 0 (syncP pl))) := by
  have hLs := hL.size
  have hnm := nameS_may (lastP pl)
  refine calls_run (n := 21) Tryz.func40 rfl rfl rfl ?_
  refine Run.seq ?_
  refine Run.region ?_
  refine RL.val (x_assignI rfl) ?_
  refine RL.nil ?_
  refine Run.seq ?_
  refine Run.seq ?_
  refine Run.region ?_
  refine RL.val (x_moveP rfl) ?_
  refine RL.st rfl <| St1.call (vals := [.pointer (some ⟨b, 0, none⟩)]) en62 rfl (lmade_ _ _ _ _ _ _ hb hD hbd hL) ?_
  rintro _ w_1 ⟨rfl, K_2⟩
  replace hb := hb.ext K_2
  replace hD := hD.ext K_2
  replace hL := hL.ext K_2
  have K0 := (K_2 : Ext w _).to (S := F)
  refine RL.val (x_not (b := true) rfl) ?_
  refine RL.nil ?_
  refine Run.condF rfl ?_
  refine Run.skip ?_
  refine Run.seq ?_
  refine Run.region ?_
  refine RL.val (x_moveP rfl) ?_
  refine RL.val (x_nilCheck rfl) ?_
  refine RL.val (x_fld (o' := 0) Tryz.underlying122 rfl ty120 rfl rfl rfl) ?_
  refine RL.st rfl <| St1.call (vals := [.pointer (some ⟨b, 0, none⟩)]) en64 rfl (last_ _ _ _ _ _ _ hb hD hbd hL) ?_
  rintro _ w_3 ⟨rfl, K_4⟩
  replace hb := hb.ext K_4
  replace hD := hD.ext K_4
  replace hL := hL.ext K_4
  replace K0 := K0.ext K_4
  refine RL.val (x_assignI rfl) ?_
  refine RL.nil ?_
  refine Run.seq ?_
  refine Run.seq ?_
  refine Run.region ?_
  refine RL.val (x_moveI rfl) ?_
  refine RL.val (x_eqI rfl rfl) ?_
  refine RL.nil ?_
  refine Run.cond rfl (fun hc12 => ?_) (fun hc12 => ?_)
  · try simp only [br] at hc12
    refine Run.seq ?_
    refine Run.region ?_
    refine RL.val (x_assignI rfl) ?_
    refine RL.nil ?_
    refine Run.ret1 (v := .int .i64 (0)) Tryz.func40 rfl rfl ?_
    have hEq : syncP pl = pl := by rw [syncP, if_pos hc12]
    rw [hEq]
    exact ⟨_, rfl, F, rfl, hD, movedS_foot (fun q_ h_ _ => h_), K0⟩
  · try simp only [br] at hc12
    refine Run.skip ?_
    refine Run.seq ?_
    refine Run.drawT [] (m := 9) (by kernel_rfl) rfl ?_
    intro w_5 K_6
    replace hb := hb.ext K_6
    replace hD := hD.ext K_6
    replace hL := hL.ext K_6
    replace K0 := K0.ext K_6
    refine ⟨fun w' => Blk w' b [.pointer (some ⟨d, 0, none⟩)] 122 ∧ True, ?_⟩
    refine RT.takeP (v := .pointer (some ⟨b, 0, none⟩)) 0 rfl (by kernel_rfl) (.inr ⟨hb, trivial⟩) (fun _ => (x_moveP rfl)) ?_
    refine RT.takeP (v := .pointer (some ⟨b, 0, none⟩)) 1 rfl (by kernel_rfl) (.inr ⟨hb, trivial⟩) (fun _ => (x_nilCheck rfl)) ?_
    refine RT.takeP (v := .pointer (some ⟨b, 0, none⟩)) 2 rfl (by kernel_rfl) (.inr ⟨hb, trivial⟩) (fun _ => (x_fld (o' := 0) Tryz.underlying122 rfl ty120 rfl rfl rfl)) ?_
    refine RT.takeP (v := .pointer (some ⟨b, 0, none⟩)) 3 rfl (by kernel_rfl) (.inr ⟨hb, trivial⟩) (fun _ => (x_fld (o' := 0) Tryz.underlying120 rfl ty62 rfl rfl rfl)) ?_
    refine RT.take (v := .pointer (some ⟨d, 0, none⟩)) 4 rfl (by kernel_rfl) ⟨hb, trivial⟩ (by rintro _ ⟨hb, -⟩; exact (x_ld (v := .pointer (some ⟨d, 0, none⟩)) ty62 rfl rfl (hb.cl.field (i := 0) rfl))) ?_
    refine RT.takeP (v := .int .i64 (lastP pl)) 5 rfl (by kernel_rfl) (.inr ⟨hb, trivial⟩) (fun _ => (x_moveI rfl)) ?_
    refine RT.st 6 rfl (by kernel_rfl) rfl <| St1.call (vals := [.int .i64 (lastP pl)]) en66 rfl (segName_ (lastP pl) _ hL) ?_
    rintro _ w_7 ⟨rfl, K_8⟩
    replace hb := hb.ext K_8
    replace hD := hD.ext K_8
    replace hL := hL.ext K_8
    replace K0 := K0.ext K_8
    refine ⟨.inr ⟨hb, trivial⟩, ?_⟩
    refine RT.st 7 rfl (by kernel_rfl) rfl <| St1.call (vals := [.pointer (some ⟨d, 0, none⟩), .string (nameS (lastP pl))]) en67 rfl (dcast (syncD hD (nameS (lastP pl)) (by first | omega | decide)) (seg_look (last_mem hc12)) rfl) ?_
    rintro _ w_10 ⟨F_9, rfl, hD_11, hm_12, K_13⟩
    have pr_14 : ¬ F_9 b := hm_12.not hbd hb.lt
    have pg_15 : ∀ q_, F_9 q_ → q_ < w.heap.size → F q_ := hm_12.inS (fun q_ h_ _ => h_) K0.size
    have pG_16 : ∀ q_, F_9 q_ → 7 ≤ q_ := fun q_ h_ => (hm_12 q_ h_).elim (hFG q_) (fun h2_ => Nat.le_trans hLs (Nat.le_trans K0.size h2_))
    replace hb := hb.keep K_13 hbd
    replace hL := hL.keep K_13 hFG
    replace K0 := K0.trans K_13 (fun x hlt hx => (fun q_ h_ _ => h_) x hx hlt)
    clear hm_12
    refine ⟨.inr ⟨hb, trivial⟩, ?_⟩
    refine RT.takeP (v := .int .i64 (0)) 8 rfl (by kernel_rfl) (.inr ⟨hb, trivial⟩) (fun _ => (x_assignI rfl)) ?_
    refine RT.done (by kernel_rfl) ?_
    refine Run.ret1 (v := .int .i64 (0)) Tryz.func40 rfl rfl ?_
    have hEq : syncP pl = syncL pl (nameS (lastP pl)) := by rw [syncP, if_neg hc12]
    rw [hEq]
    exact ⟨_, rfl, F_9, rfl, hD_11, movedS_foot pg_15, K0⟩

set_option maxRecDepth 100000 in
set_option maxHeartbeats 4000000 in
theorem lappend_ (b d : Nat) (F : Nat → Prop) (room : Int) (pl : List PF) (a : Option Addr) (xs : List UInt8) (c : Nat) (w : World) (hb : Blk w b [.pointer (some ⟨d, 0, none⟩)] 122) (hD : DiskAt w d F room pl) (hbd : ¬ F b) (hL : LaidOk w) (hFG : ∀ q, F q → 7 ≤ q) (hs : SlOf w a xs) (hdis : ∀ x, a = some x → ¬ F x.block) :
    Calls Tryz.prog 27 #[.pointer (some ⟨b, 0, none⟩), .slice (a) (xs.length) (c)] w (Ret (DStep d F room w (appendP room pl xs).1 (appendP room pl xs).2)) := by
  have hLs := hL.size
  have hnm := nameS_may (lastP pl)
  have hll := last_le pl
  refine calls_run (n := 79) Tryz.func27 rfl rfl rfl ?_
  refine Run.seq ?_
  refine Run.region ?_
  refine RL.val (x_assignI rfl) ?_
  refine RL.nil ?_
  refine Run.seq ?_
  refine Run.seq ?_
  refine Run.region ?_
  refine RL.val (x_moveP rfl) ?_
  refine RL.st rfl <| St1.call (vals := [.pointer (some ⟨b, 0, none⟩)]) en62 rfl (lmade_ _ _ _ _ _ _ hb hD hbd hL) ?_
  rintro _ w_1 ⟨rfl, K_2⟩
  replace hb := hb.ext K_2
  replace hD := hD.ext K_2
  replace hL := hL.ext K_2
  have K0 := (K_2 : Ext w _).to (S := F)
  refine RL.val (x_not (b := true) rfl) ?_
  refine RL.nil ?_
  refine Run.condF rfl ?_
  refine Run.skip ?_
  refine Run.seq ?_
  refine Run.region ?_
  refine RL.val (x_moveSl rfl) ?_
  refine RL.st rfl <| St1.call (vals := [.slice (a) (xs.length) (c)]) en63 rfl (recMay_ _ xs _ _) ?_
  rintro _ w_3 ⟨rfl, K_4⟩
  replace hb := hb.ext K_4
  replace hD := hD.ext K_4
  replace hL := hL.ext K_4
  replace K0 := K0.ext K_4
  refine RL.val (x_assignI rfl) ?_
  refine RL.nil ?_
  refine Run.seq ?_
  refine Run.seq ?_
  refine Run.region ?_
  refine RL.val (x_moveI rfl) ?_
  refine RL.val (x_neI rfl rfl) ?_
  refine RL.nil ?_
  refine Run.cond rfl (fun hc15 => ?_) (fun hc15 => ?_)
  · try simp only [br] at hc15
    refine Run.seq ?_
    refine Run.region ?_
    refine RL.val (x_moveI rfl) ?_
    refine RL.val (x_assignI rfl) ?_
    refine RL.nil ?_
    refine Run.ret1 (v := .int .i64 (mayP xs)) Tryz.func27 rfl rfl ?_
    have hEq : appendP room pl xs = (mayP xs, pl) := by rw [appendP, if_pos hc15]
    rw [hEq]
    exact ⟨_, rfl, F, rfl, hD, movedS_foot (fun q_ h_ _ => h_), K0⟩
  · try simp only [br] at hc15
    have hm0 : mayP xs = 0 := hc15
    rw [hm0]
    have hmk := mayP_ok hm0
    refine Run.skip ?_
    refine Run.seq ?_
    refine Run.region ?_
    refine RL.val (x_moveP rfl) ?_
    refine RL.val (x_nilCheck rfl) ?_
    refine RL.val (x_fld (o' := 0) Tryz.underlying122 rfl ty120 rfl rfl rfl) ?_
    refine RL.st rfl <| St1.call (vals := [.pointer (some ⟨b, 0, none⟩)]) en64 rfl (last_ _ _ _ _ _ _ hb hD hbd hL) ?_
    rintro _ w_5 ⟨rfl, K_6⟩
    replace hb := hb.ext K_6
    replace hD := hD.ext K_6
    replace hL := hL.ext K_6
    replace K0 := K0.ext K_6
    refine RL.val (x_assignI rfl) ?_
    refine RL.nil ?_
    refine Run.seq ?_
    refine Run.region ?_
    refine RL.val (x_assignI rfl) ?_
    refine RL.nil ?_
    refine Run.seq ?_
    refine Run.seq ?_
    refine Run.region ?_
    refine RL.val (x_moveI rfl) ?_
    refine RL.val (x_gtI rfl rfl) ?_
    refine RL.nil ?_
    refine Run.cond rfl (fun hc22 => ?_) (fun hc22 => ?_)
    · try simp only [br] at hc22
      skip
      refine Run.drawT [] (m := 14) (by kernel_rfl) rfl ?_
      intro w_7 K_8
      replace hb := hb.ext K_8
      replace hD := hD.ext K_8
      replace hL := hL.ext K_8
      replace K0 := K0.ext K_8
      refine ⟨fun w' => Blk w' b [.pointer (some ⟨d, 0, none⟩)] 122 ∧ True, ?_⟩
      refine RT.takeP (v := .pointer (some ⟨b, 0, none⟩)) 0 rfl (by kernel_rfl) (.inr ⟨hb, trivial⟩) (fun _ => (x_moveP rfl)) ?_
      refine RT.takeP (v := .pointer (some ⟨b, 0, none⟩)) 1 rfl (by kernel_rfl) (.inr ⟨hb, trivial⟩) (fun _ => (x_nilCheck rfl)) ?_
      refine RT.takeP (v := .pointer (some ⟨b, 0, none⟩)) 2 rfl (by kernel_rfl) (.inr ⟨hb, trivial⟩) (fun _ => (x_fld (o' := 0) Tryz.underlying122 rfl ty120 rfl rfl rfl)) ?_
      refine RT.takeP (v := .pointer (some ⟨b, 0, none⟩)) 3 rfl (by kernel_rfl) (.inr ⟨hb, trivial⟩) (fun _ => (x_fld (o' := 0) Tryz.underlying120 rfl ty62 rfl rfl rfl)) ?_
      refine RT.take (v := .pointer (some ⟨d, 0, none⟩)) 4 rfl (by kernel_rfl) ⟨hb, trivial⟩ (by rintro _ ⟨hb, -⟩; exact (x_ld (v := .pointer (some ⟨d, 0, none⟩)) ty62 rfl rfl (hb.cl.field (i := 0) rfl))) ?_
      refine RT.takeP (v := .int .i64 (lastP pl)) 5 rfl (by kernel_rfl) (.inr ⟨hb, trivial⟩) (fun _ => (x_moveI rfl)) ?_
      refine RT.st 6 rfl (by kernel_rfl) rfl <| St1.call (vals := [.int .i64 (lastP pl)]) en66 rfl (segName_ (lastP pl) _ hL) ?_
      rintro _ w_9 ⟨rfl, K_10⟩
      replace hb := hb.ext K_10
      replace hD := hD.ext K_10
      replace hL := hL.ext K_10
      replace K0 := K0.ext K_10
      refine ⟨.inr ⟨hb, trivial⟩, ?_⟩
      refine RT.st 7 rfl (by kernel_rfl) rfl <| St1.call (vals := [.pointer (some ⟨d, 0, none⟩), .string (nameS (lastP pl))]) en65 rfl (sizeDE hD (nameS (lastP pl)) (by first | omega | decide) 0 (seg_look (last_mem (by omega)))) ?_
      rintro _ w_11 ⟨rfl, K_12⟩
      replace hb := hb.ext K_12
      replace hD := hD.ext K_12
      replace hL := hL.ext K_12
      replace K0 := K0.ext K_12
      refine ⟨.inr ⟨hb, trivial⟩, ?_⟩
      refine RT.takeP (v := .tuple #[.int .i64 (((sizeB pl (nameS (lastP pl)) : Nat) : Int)), .int .i64 (((syncB pl (nameS (lastP pl)) : Nat) : Int)), .int .i64 (0)]) 8 rfl (by kernel_rfl) (.inr ⟨hb, trivial⟩) (fun _ => (x_moveT rfl)) ?_
      refine RT.takeP (v := .int .i64 (((sizeB pl (nameS (lastP pl)) : Nat) : Int))) 9 rfl (by kernel_rfl) (.inr ⟨hb, trivial⟩) (fun _ => (x_extract rfl rfl)) ?_
      refine RT.takeP (v := .int .i64 (((syncB pl (nameS (lastP pl)) : Nat) : Int))) 10 rfl (by kernel_rfl) (.inr ⟨hb, trivial⟩) (fun _ => (x_extract rfl rfl)) ?_
      refine RT.takeP (v := .int .i64 (0)) 11 rfl (by kernel_rfl) (.inr ⟨hb, trivial⟩) (fun _ => (x_extract rfl rfl)) ?_
      refine RT.takeP (v := .int .i64 (((sizeB pl (nameS (lastP pl)) : Nat) : Int))) 12 rfl (by kernel_rfl) (.inr ⟨hb, trivial⟩) (fun _ => (x_assignI rfl)) ?_
      refine RT.takeP (v := .int .i64 (0)) 13 rfl (by kernel_rfl) (.inr ⟨hb, trivial⟩) (fun _ => (x_assignI rfl)) ?_
      refine RT.done (by kernel_rfl) ?_
      refine Run.seq ?_
      refine Run.seq ?_
      refine Run.region ?_
      refine RL.val (x_moveI rfl) ?_
      refine RL.val (litT (x_eqI rfl rfl) (by decide)) ?_
      refine RL.val (x_moveB rfl) ?_
      refine RL.gst (wantedT1 rfl rfl rfl rfl) <| St1.val (x_moveI rfl) ?_
      refine RL.gst (wantedT1 rfl rfl rfl rfl) <| St1.val (x_gtI rfl rfl) ?_
      refine RL.val (x_andT rfl rfl rfl) ?_
      refine RL.val (x_moveB rfl) ?_
      refine RL.gval (wantedT rfl rfl rfl rfl) (fun hg => (x_moveI rfl)) ?_
      refine RL.gval (wantedT rfl rfl rfl rfl) (fun hg => (x_geI (gvr hg) rfl)) ?_
      refine RL.val (x_and rfl rfl rfl) ?_
      refine RL.nil ?_
      refine Run.cond rfl (fun hc44 => ?_) (fun hc44 => ?_)
      · try simp only [br] at hc44
        skip
        refine Run.seq ?_
        refine Run.drawT [] (m := 9) (by kernel_rfl) rfl ?_
        intro w_13 K_14
        replace hb := hb.ext K_14
        replace hD := hD.ext K_14
        replace hL := hL.ext K_14
        replace K0 := K0.ext K_14
        refine ⟨fun w' => Blk w' b [.pointer (some ⟨d, 0, none⟩)] 122 ∧ True, ?_⟩
        refine RT.takeP (v := .pointer (some ⟨b, 0, none⟩)) 0 rfl (by kernel_rfl) (.inr ⟨hb, trivial⟩) (fun _ => (x_moveP rfl)) ?_
        refine RT.takeP (v := .pointer (some ⟨b, 0, none⟩)) 1 rfl (by kernel_rfl) (.inr ⟨hb, trivial⟩) (fun _ => (x_nilCheck rfl)) ?_
        refine RT.takeP (v := .pointer (some ⟨b, 0, none⟩)) 2 rfl (by kernel_rfl) (.inr ⟨hb, trivial⟩) (fun _ => (x_fld (o' := 0) Tryz.underlying122 rfl ty120 rfl rfl rfl)) ?_
        refine RT.takeP (v := .pointer (some ⟨b, 0, none⟩)) 3 rfl (by kernel_rfl) (.inr ⟨hb, trivial⟩) (fun _ => (x_fld (o' := 0) Tryz.underlying120 rfl ty62 rfl rfl rfl)) ?_
        refine RT.take (v := .pointer (some ⟨d, 0, none⟩)) 4 rfl (by kernel_rfl) ⟨hb, trivial⟩ (by rintro _ ⟨hb, -⟩; exact (x_ld (v := .pointer (some ⟨d, 0, none⟩)) ty62 rfl rfl (hb.cl.field (i := 0) rfl))) ?_
        refine RT.takeP (v := .int .i64 (lastP pl)) 5 rfl (by kernel_rfl) (.inr ⟨hb, trivial⟩) (fun _ => (x_moveI rfl)) ?_
        refine RT.st 6 rfl (by kernel_rfl) rfl <| St1.call (vals := [.int .i64 (lastP pl)]) en66 rfl (segName_ (lastP pl) _ hL) ?_
        rintro _ w_15 ⟨rfl, K_16⟩
        replace hb := hb.ext K_16
        replace hD := hD.ext K_16
        replace hL := hL.ext K_16
        replace K0 := K0.ext K_16
        refine ⟨.inr ⟨hb, trivial⟩, ?_⟩
        refine RT.st 7 rfl (by kernel_rfl) rfl <| St1.call (vals := [.pointer (some ⟨d, 0, none⟩), .string (nameS (lastP pl))]) en67 rfl (dcast (syncD hD (nameS (lastP pl)) (by first | omega | decide)) (seg_look (last_mem (by omega))) rfl) ?_
        rintro _ w_18 ⟨F_17, rfl, hD_19, hm_20, K_21⟩
        have pr_22 : ¬ F_17 b := hm_20.not hbd hb.lt
        have pg_23 : ∀ q_, F_17 q_ → q_ < w.heap.size → F q_ := hm_20.inS (fun q_ h_ _ => h_) K0.size
        have pG_24 : ∀ q_, F_17 q_ → 7 ≤ q_ := fun q_ h_ => (hm_20 q_ h_).elim (hFG q_) (fun h2_ => Nat.le_trans hLs (Nat.le_trans K0.size h2_))
        replace hb := hb.keep K_21 hbd
        replace hL := hL.keep K_21 hFG
        replace K0 := K0.trans K_21 (fun x hlt hx => (fun q_ h_ _ => h_) x hx hlt)
        clear hm_20
        refine ⟨.inr ⟨hb, trivial⟩, ?_⟩
        refine RT.takeP (v := .int .i64 (0)) 8 rfl (by kernel_rfl) (.inr ⟨hb, trivial⟩) (fun _ => (x_assignI rfl)) ?_
        refine RT.done (by kernel_rfl) ?_
        refine Run.region ?_
        refine RL.val (x_moveI rfl) ?_
        refine RL.val (x_add rfl rfl (by omega) (by omega)) ?_
        refine RL.val (x_assignI rfl) ?_
        refine RL.nil ?_
        refine Run.seq ?_
        refine Run.seq ?_
        refine Run.region ?_
        refine RL.val (x_moveI rfl) ?_
        refine RL.val (litF (x_neI rfl rfl) (by decide)) ?_
        refine RL.nil ?_
        refine Run.condF rfl ?_
        refine Run.skip ?_
        refine Run.seq ?_
        refine Run.region ?_
        refine RL.val (x_moveI rfl) ?_
        refine RL.val (x_maxI rfl rfl) ?_
        refine RL.val (x_assignI rfl) ?_
        refine RL.nil ?_
        refine Run.seq ?_
        refine Run.seq ?_
        refine Run.region ?_
        refine RL.val (x_moveI rfl) ?_
        refine RL.val (x_gtI rfl rfl) ?_
        refine RL.nil ?_
        refine Run.cond rfl (fun hc61 => ?_) (fun hc61 => ?_)
        · try simp only [br] at hc61
          refine Run.seq ?_
          refine Run.region ?_
          refine RL.val (x_assignI rfl) ?_
          refine RL.nil ?_
          refine Run.ret1 (v := .int .i64 (70)) Tryz.func27 rfl rfl ?_
          have hEq : appendP room pl xs = (70, syncL pl (nameS (lastP pl))) := by rw [appendP, if_neg (by rw [hm0]; decide), if_pos ⟨by omega, by omega⟩, if_pos hc61]
          rw [hEq]
          exact ⟨_, rfl, F_17, rfl, hD_19, movedS_foot pg_23, K0⟩
        · try simp only [br] at hc61
          refine Run.skip ?_
          refine Run.seq ?_
          have hnm1 := nameS_may (max (lastP pl + 1) 1)
          have hnm2 := nameS_may (max (lastP pl) 1)
          have hfb := frameB_len xs (by omega)
          refine Run.region ?_
          refine RL.val (x_moveSl rfl) ?_
          refine RL.st rfl <| St1.call (vals := [.slice (a) (xs.length) (c)]) en68 rfl (frame_ _ _ _ _ (hs.keep K0 hdis) (by first | omega | (simp; done))) ?_
          rintro _ w_27 ⟨a_25, c_26, rfl, ho_28, hg_29, K_30⟩
          have pr_31 : ¬ own a_25 b := notNew hg_29 hb.lt
          have pr_32 : ∀ q_, own a_25 q_ → ¬ F_17 q_ := apartNew hg_29 hD_19.own_lt
          have pg_33 : ∀ q_, own a_25 q_ → q_ < w.heap.size → F q_ := fun q_ h hlt => absurd (Nat.le_trans K0.size (hg_29 q_ h)) (by omega)
          have pw_34 : ∀ q_, own a_25 q_ → w.heap.size ≤ q_ := fun q_ h => Nat.le_trans K0.size (hg_29 q_ h)
          clear hg_29
          replace hb := hb.ext K_30
          replace hL := hL.ext K_30
          replace hD_19 := hD_19.ext K_30
          replace K0 := K0.ext K_30
          refine RL.val (x_moveT rfl) ?_
          refine RL.val (x_extract rfl rfl) ?_
          refine RL.val (x_extract rfl rfl) ?_
          refine RL.val (x_assignSl rfl) ?_
          refine RL.val (x_assignI rfl) ?_
          refine RL.nil ?_
          refine Run.seq ?_
          refine Run.seq ?_
          refine Run.region ?_
          refine RL.val (x_moveI rfl) ?_
          refine RL.val (litF (x_neI rfl rfl) (by decide)) ?_
          refine RL.nil ?_
          refine Run.condF rfl ?_
          refine Run.skip ?_
          refine Run.seq ?_
          refine Run.drawT [] (m := 10) (by kernel_rfl) rfl ?_
          intro w_35 K_36
          replace hb := hb.ext K_36
          replace hL := hL.ext K_36
          replace hD_19 := hD_19.ext K_36
          replace ho_28 := ho_28.ext K_36
          replace K0 := K0.ext K_36
          refine ⟨fun w' => Blk w' b [.pointer (some ⟨d, 0, none⟩)] 122 ∧ True, ?_⟩
          refine RT.takeP (v := .pointer (some ⟨b, 0, none⟩)) 0 rfl (by kernel_rfl) (.inr ⟨hb, trivial⟩) (fun _ => (x_moveP rfl)) ?_
          refine RT.takeP (v := .pointer (some ⟨b, 0, none⟩)) 1 rfl (by kernel_rfl) (.inr ⟨hb, trivial⟩) (fun _ => (x_nilCheck rfl)) ?_
          refine RT.takeP (v := .pointer (some ⟨b, 0, none⟩)) 2 rfl (by kernel_rfl) (.inr ⟨hb, trivial⟩) (fun _ => (x_fld (o' := 0) Tryz.underlying122 rfl ty120 rfl rfl rfl)) ?_
          refine RT.takeP (v := .pointer (some ⟨b, 0, none⟩)) 3 rfl (by kernel_rfl) (.inr ⟨hb, trivial⟩) (fun _ => (x_fld (o' := 0) Tryz.underlying120 rfl ty62 rfl rfl rfl)) ?_
          refine RT.take (v := .pointer (some ⟨d, 0, none⟩)) 4 rfl (by kernel_rfl) ⟨hb, trivial⟩ (by rintro _ ⟨hb, -⟩; exact (x_ld (v := .pointer (some ⟨d, 0, none⟩)) ty62 rfl rfl (hb.cl.field (i := 0) rfl))) ?_
          refine RT.takeP (v := .int .i64 (max ((lastP pl) + 1) 1)) 5 rfl (by kernel_rfl) (.inr ⟨hb, trivial⟩) (fun _ => (x_moveI rfl)) ?_
          refine RT.takeP (v := .slice (a_25) ((frameB xs).length) (c_26)) 7 rfl (by kernel_rfl) (.inr ⟨hb, trivial⟩) (fun _ => (x_moveSl rfl)) ?_
          refine RT.st 6 rfl (by kernel_rfl) rfl <| St1.call (vals := [.int .i64 (max ((lastP pl) + 1) 1)]) en66 rfl (segName_ (max ((lastP pl) + 1) 1) _ hL) ?_
          rintro _ w_37 ⟨rfl, K_38⟩
          replace hb := hb.ext K_38
          replace hL := hL.ext K_38
          replace hD_19 := hD_19.ext K_38
          replace ho_28 := ho_28.ext K_38
          replace K0 := K0.ext K_38
          refine ⟨.inr ⟨hb, trivial⟩, ?_⟩
          refine RT.st 8 rfl (by kernel_rfl) rfl <| St1.call (vals := [.pointer (some ⟨d, 0, none⟩), .string (nameS (max ((lastP pl) + 1) 1)), .slice (a_25) ((frameB xs).length) (c_26)]) en69 rfl (appendD hD_19 (nameS (max ((lastP pl) + 1) 1)) _ _ _ (by first | omega | decide) ho_28.sl (fun x_ hx_ => pr_32 _ ⟨x_, hx_, rfl⟩) (by first | omega | decide)) ?_
          rintro _ w_40 ⟨F_39, rfl, hD_41, hm_42, K_43⟩
          have pr_44 : ¬ F_39 b := hm_42.not pr_22 hb.lt
          have pr_45 : ∀ q_, F_39 q_ → ¬ own a_25 q_ := hm_42.apart (fun q_ h1 h2 => pr_32 q_ h2 h1) ho_28.own_lt
          have pg_46 : ∀ q_, F_39 q_ → q_ < w.heap.size → F q_ := hm_42.inS pg_23 K0.size
          have pG_47 : ∀ q_, F_39 q_ → 7 ≤ q_ := fun q_ h_ => (hm_42 q_ h_).elim (pG_24 q_) (fun h2_ => Nat.le_trans hLs (Nat.le_trans K0.size h2_))
          replace hb := hb.keep K_43 pr_22
          replace hL := hL.keep K_43 pG_24
          replace ho_28 := ho_28.keepO K_43 pr_32
          replace K0 := K0.trans K_43 (fun x hlt hx => pg_23 x hx hlt)
          clear hm_42
          refine ⟨.inr ⟨hb, trivial⟩, ?_⟩
          refine RT.takeP (v := .int .i64 (appE room (syncL pl (nameS (lastP pl))) (nameS (max ((lastP pl) + 1) 1)) (frameB xs))) 9 rfl (by kernel_rfl) (.inr ⟨hb, trivial⟩) (fun _ => (x_assignI rfl)) ?_
          refine RT.done (by kernel_rfl) ?_
          refine Run.ret1 (v := .int .i64 (appE room (syncL pl (nameS (lastP pl))) (nameS (max ((lastP pl) + 1) 1)) (frameB xs))) Tryz.func27 rfl rfl ?_
          have hEq : appendP room pl xs = (appE room (syncL pl (nameS (lastP pl))) (nameS (max ((lastP pl) + 1) 1)) (frameB xs), appL room (syncL pl (nameS (lastP pl))) (nameS (max ((lastP pl) + 1) 1)) (frameB xs)) := by rw [appendP, if_neg (by rw [hm0]; decide), if_pos ⟨by omega, by omega⟩, if_neg (by omega)]
          rw [hEq]
          exact ⟨_, rfl, F_39, rfl, hD_41, movedS_foot pg_46, K0⟩
      · try simp only [br] at hc44
        skip
        refine Run.skip ?_
        refine Run.seq ?_
        refine Run.seq ?_
        refine Run.region ?_
        refine RL.val (x_moveI rfl) ?_
        refine RL.val (litF (x_neI rfl rfl) (by decide)) ?_
        refine RL.nil ?_
        refine Run.condF rfl ?_
        refine Run.skip ?_
        refine Run.seq ?_
        refine Run.region ?_
        refine RL.val (x_moveI rfl) ?_
        refine RL.val (x_maxI rfl rfl) ?_
        refine RL.val (x_assignI rfl) ?_
        refine RL.nil ?_
        refine Run.seq ?_
        refine Run.seq ?_
        refine Run.region ?_
        refine RL.val (x_moveI rfl) ?_
        refine RL.val (x_gtI rfl rfl) ?_
        refine RL.nil ?_
        refine Run.cond rfl (fun hc61 => ?_) (fun hc61 => ?_)
        · try simp only [br] at hc61
          refine Run.seq ?_
          refine Run.region ?_
          refine RL.val (x_assignI rfl) ?_
          refine RL.nil ?_
          refine Run.ret1 (v := .int .i64 (70)) Tryz.func27 rfl rfl ?_
          have hEq : appendP room pl xs = (70, pl) := by rw [appendP, if_neg (by rw [hm0]; decide), if_neg (by omega), if_pos hc61]
          rw [hEq]
          exact ⟨_, rfl, F, rfl, hD, movedS_foot (fun q_ h_ _ => h_), K0⟩
        · try simp only [br] at hc61
          refine Run.skip ?_
          refine Run.seq ?_
          have hnm1 := nameS_may (max (lastP pl + 1) 1)
          have hnm2 := nameS_may (max (lastP pl) 1)
          have hfb := frameB_len xs (by omega)
          refine Run.region ?_
          refine RL.val (x_moveSl rfl) ?_
          refine RL.st rfl <| St1.call (vals := [.slice (a) (xs.length) (c)]) en68 rfl (frame_ _ _ _ _ (hs.keep K0 hdis) (by first | omega | (simp; done))) ?_
          rintro _ w_50 ⟨a_48, c_49, rfl, ho_51, hg_52, K_53⟩
          have pr_54 : ¬ own a_48 b := notNew hg_52 hb.lt
          have pr_55 : ∀ q_, own a_48 q_ → ¬ F q_ := apartNew hg_52 hD.own_lt
          have pg_56 : ∀ q_, own a_48 q_ → q_ < w.heap.size → F q_ := fun q_ h hlt => absurd (Nat.le_trans K0.size (hg_52 q_ h)) (by omega)
          have pw_57 : ∀ q_, own a_48 q_ → w.heap.size ≤ q_ := fun q_ h => Nat.le_trans K0.size (hg_52 q_ h)
          clear hg_52
          replace hb := hb.ext K_53
          replace hD := hD.ext K_53
          replace hL := hL.ext K_53
          replace K0 := K0.ext K_53
          refine RL.val (x_moveT rfl) ?_
          refine RL.val (x_extract rfl rfl) ?_
          refine RL.val (x_extract rfl rfl) ?_
          refine RL.val (x_assignSl rfl) ?_
          refine RL.val (x_assignI rfl) ?_
          refine RL.nil ?_
          refine Run.seq ?_
          refine Run.seq ?_
          refine Run.region ?_
          refine RL.val (x_moveI rfl) ?_
          refine RL.val (litF (x_neI rfl rfl) (by decide)) ?_
          refine RL.nil ?_
          refine Run.condF rfl ?_
          refine Run.skip ?_
          refine Run.seq ?_
          refine Run.drawT [] (m := 10) (by kernel_rfl) rfl ?_
          intro w_58 K_59
          replace hb := hb.ext K_59
          replace hD := hD.ext K_59
          replace hL := hL.ext K_59
          replace ho_51 := ho_51.ext K_59
          replace K0 := K0.ext K_59
          refine ⟨fun w' => Blk w' b [.pointer (some ⟨d, 0, none⟩)] 122 ∧ True, ?_⟩
          refine RT.takeP (v := .pointer (some ⟨b, 0, none⟩)) 0 rfl (by kernel_rfl) (.inr ⟨hb, trivial⟩) (fun _ => (x_moveP rfl)) ?_
          refine RT.takeP (v := .pointer (some ⟨b, 0, none⟩)) 1 rfl (by kernel_rfl) (.inr ⟨hb, trivial⟩) (fun _ => (x_nilCheck rfl)) ?_
          refine RT.takeP (v := .pointer (some ⟨b, 0, none⟩)) 2 rfl (by kernel_rfl) (.inr ⟨hb, trivial⟩) (fun _ => (x_fld (o' := 0) Tryz.underlying122 rfl ty120 rfl rfl rfl)) ?_
          refine RT.takeP (v := .pointer (some ⟨b, 0, none⟩)) 3 rfl (by kernel_rfl) (.inr ⟨hb, trivial⟩) (fun _ => (x_fld (o' := 0) Tryz.underlying120 rfl ty62 rfl rfl rfl)) ?_
          refine RT.take (v := .pointer (some ⟨d, 0, none⟩)) 4 rfl (by kernel_rfl) ⟨hb, trivial⟩ (by rintro _ ⟨hb, -⟩; exact (x_ld (v := .pointer (some ⟨d, 0, none⟩)) ty62 rfl rfl (hb.cl.field (i := 0) rfl))) ?_
          refine RT.takeP (v := .int .i64 (max (lastP pl) 1)) 5 rfl (by kernel_rfl) (.inr ⟨hb, trivial⟩) (fun _ => (x_moveI rfl)) ?_
          refine RT.takeP (v := .slice (a_48) ((frameB xs).length) (c_49)) 7 rfl (by kernel_rfl) (.inr ⟨hb, trivial⟩) (fun _ => (x_moveSl rfl)) ?_
          refine RT.st 6 rfl (by kernel_rfl) rfl <| St1.call (vals := [.int .i64 (max (lastP pl) 1)]) en66 rfl (segName_ (max (lastP pl) 1) _ hL) ?_
          rintro _ w_60 ⟨rfl, K_61⟩
          replace hb := hb.ext K_61
          replace hD := hD.ext K_61
          replace hL := hL.ext K_61
          replace ho_51 := ho_51.ext K_61
          replace K0 := K0.ext K_61
          refine ⟨.inr ⟨hb, trivial⟩, ?_⟩
          refine RT.st 8 rfl (by kernel_rfl) rfl <| St1.call (vals := [.pointer (some ⟨d, 0, none⟩), .string (nameS (max (lastP pl) 1)), .slice (a_48) ((frameB xs).length) (c_49)]) en69 rfl (appendD hD (nameS (max (lastP pl) 1)) _ _ _ (by first | omega | decide) ho_51.sl (fun x_ hx_ => pr_55 _ ⟨x_, hx_, rfl⟩) (by first | omega | decide)) ?_
          rintro _ w_63 ⟨F_62, rfl, hD_64, hm_65, K_66⟩
          have pr_67 : ¬ F_62 b := hm_65.not hbd hb.lt
          have pr_68 : ∀ q_, F_62 q_ → ¬ own a_48 q_ := hm_65.apart (fun q_ h1 h2 => pr_55 q_ h2 h1) ho_51.own_lt
          have pg_69 : ∀ q_, F_62 q_ → q_ < w.heap.size → F q_ := hm_65.inS (fun q_ h_ _ => h_) K0.size
          have pG_70 : ∀ q_, F_62 q_ → 7 ≤ q_ := fun q_ h_ => (hm_65 q_ h_).elim (hFG q_) (fun h2_ => Nat.le_trans hLs (Nat.le_trans K0.size h2_))
          replace hb := hb.keep K_66 hbd
          replace hL := hL.keep K_66 hFG
          replace ho_51 := ho_51.keepO K_66 pr_55
          replace K0 := K0.trans K_66 (fun x hlt hx => (fun q_ h_ _ => h_) x hx hlt)
          clear hm_65
          refine ⟨.inr ⟨hb, trivial⟩, ?_⟩
          refine RT.takeP (v := .int .i64 (appE room pl (nameS (max (lastP pl) 1)) (frameB xs))) 9 rfl (by kernel_rfl) (.inr ⟨hb, trivial⟩) (fun _ => (x_assignI rfl)) ?_
          refine RT.done (by kernel_rfl) ?_
          refine Run.ret1 (v := .int .i64 (appE room pl (nameS (max (lastP pl) 1)) (frameB xs))) Tryz.func27 rfl rfl ?_
          have hEq : appendP room pl xs = (appE room pl (nameS (max (lastP pl) 1)) (frameB xs), appL room pl (nameS (max (lastP pl) 1)) (frameB xs)) := by rw [appendP, if_neg (by rw [hm0]; decide), if_neg (by omega), if_neg (by omega)]
          rw [hEq]
          exact ⟨_, rfl, F_62, rfl, hD_64, movedS_foot pg_69, K0⟩
    · try simp only [br] at hc22
      skip
      refine Run.skip ?_
      refine Run.seq ?_
      refine Run.seq ?_
      refine Run.region ?_
      refine RL.val (x_moveI rfl) ?_
      refine RL.val (litT (x_eqI rfl rfl) (by decide)) ?_
      refine RL.val (x_moveB rfl) ?_
      refine RL.gst (wantedT1 rfl rfl rfl rfl) <| St1.val (x_moveI rfl) ?_
      refine RL.gst (wantedT1 rfl rfl rfl rfl) <| St1.val (x_gtI rfl rfl) ?_
      refine RL.val (x_andT rfl rfl rfl) ?_
      refine RL.val (x_moveB rfl) ?_
      refine RL.gval (wantedT rfl rfl rfl rfl) (fun hg => (x_moveI rfl)) ?_
      refine RL.gval (wantedT rfl rfl rfl rfl) (fun hg => (litF (x_geI (gvr hg) rfl) (by decide))) ?_
      refine RL.val (x_and rfl rfl rfl) ?_
      refine RL.nil ?_
      refine Run.cond rfl (fun hc44 => ?_) (fun hc44 => ?_)
      · try simp only [br] at hc44
        simp at hc44
      · try simp only [br] at hc44
        skip
        refine Run.skip ?_
        refine Run.seq ?_
        refine Run.seq ?_
        refine Run.region ?_
        refine RL.val (x_moveI rfl) ?_
        refine RL.val (litF (x_neI rfl rfl) (by decide)) ?_
        refine RL.nil ?_
        refine Run.condF rfl ?_
        refine Run.skip ?_
        refine Run.seq ?_
        refine Run.region ?_
        refine RL.val (x_moveI rfl) ?_
        refine RL.val (x_maxI rfl rfl) ?_
        refine RL.val (x_assignI rfl) ?_
        refine RL.nil ?_
        refine Run.seq ?_
        refine Run.seq ?_
        refine Run.region ?_
        refine RL.val (x_moveI rfl) ?_
        refine RL.val (x_gtI rfl rfl) ?_
        refine RL.nil ?_
        refine Run.cond rfl (fun hc61 => ?_) (fun hc61 => ?_)
        · try simp only [br] at hc61
          refine Run.seq ?_
          refine Run.region ?_
          refine RL.val (x_assignI rfl) ?_
          refine RL.nil ?_
          refine Run.ret1 (v := .int .i64 (70)) Tryz.func27 rfl rfl ?_
          have hEq : appendP room pl xs = (70, pl) := by rw [appendP, if_neg (by rw [hm0]; decide), if_neg (by omega), if_pos hc61]
          rw [hEq]
          exact ⟨_, rfl, F, rfl, hD, movedS_foot (fun q_ h_ _ => h_), K0⟩
        · try simp only [br] at hc61
          refine Run.skip ?_
          refine Run.seq ?_
          have hnm1 := nameS_may (max (lastP pl + 1) 1)
          have hnm2 := nameS_may (max (lastP pl) 1)
          have hfb := frameB_len xs (by omega)
          refine Run.region ?_
          refine RL.val (x_moveSl rfl) ?_
          refine RL.st rfl <| St1.call (vals := [.slice (a) (xs.length) (c)]) en68 rfl (frame_ _ _ _ _ (hs.keep K0 hdis) (by first | omega | (simp; done))) ?_
          rintro _ w_73 ⟨a_71, c_72, rfl, ho_74, hg_75, K_76⟩
          have pr_77 : ¬ own a_71 b := notNew hg_75 hb.lt
          have pr_78 : ∀ q_, own a_71 q_ → ¬ F q_ := apartNew hg_75 hD.own_lt
          have pg_79 : ∀ q_, own a_71 q_ → q_ < w.heap.size → F q_ := fun q_ h hlt => absurd (Nat.le_trans K0.size (hg_75 q_ h)) (by omega)
          have pw_80 : ∀ q_, own a_71 q_ → w.heap.size ≤ q_ := fun q_ h => Nat.le_trans K0.size (hg_75 q_ h)
          clear hg_75
          replace hb := hb.ext K_76
          replace hD := hD.ext K_76
          replace hL := hL.ext K_76
          replace K0 := K0.ext K_76
          refine RL.val (x_moveT rfl) ?_
          refine RL.val (x_extract rfl rfl) ?_
          refine RL.val (x_extract rfl rfl) ?_
          refine RL.val (x_assignSl rfl) ?_
          refine RL.val (x_assignI rfl) ?_
          refine RL.nil ?_
          refine Run.seq ?_
          refine Run.seq ?_
          refine Run.region ?_
          refine RL.val (x_moveI rfl) ?_
          refine RL.val (litF (x_neI rfl rfl) (by decide)) ?_
          refine RL.nil ?_
          refine Run.condF rfl ?_
          refine Run.skip ?_
          refine Run.seq ?_
          refine Run.drawT [] (m := 10) (by kernel_rfl) rfl ?_
          intro w_81 K_82
          replace hb := hb.ext K_82
          replace hD := hD.ext K_82
          replace hL := hL.ext K_82
          replace ho_74 := ho_74.ext K_82
          replace K0 := K0.ext K_82
          refine ⟨fun w' => Blk w' b [.pointer (some ⟨d, 0, none⟩)] 122 ∧ True, ?_⟩
          refine RT.takeP (v := .pointer (some ⟨b, 0, none⟩)) 0 rfl (by kernel_rfl) (.inr ⟨hb, trivial⟩) (fun _ => (x_moveP rfl)) ?_
          refine RT.takeP (v := .pointer (some ⟨b, 0, none⟩)) 1 rfl (by kernel_rfl) (.inr ⟨hb, trivial⟩) (fun _ => (x_nilCheck rfl)) ?_
          refine RT.takeP (v := .pointer (some ⟨b, 0, none⟩)) 2 rfl (by kernel_rfl) (.inr ⟨hb, trivial⟩) (fun _ => (x_fld (o' := 0) Tryz.underlying122 rfl ty120 rfl rfl rfl)) ?_
          refine RT.takeP (v := .pointer (some ⟨b, 0, none⟩)) 3 rfl (by kernel_rfl) (.inr ⟨hb, trivial⟩) (fun _ => (x_fld (o' := 0) Tryz.underlying120 rfl ty62 rfl rfl rfl)) ?_
          refine RT.take (v := .pointer (some ⟨d, 0, none⟩)) 4 rfl (by kernel_rfl) ⟨hb, trivial⟩ (by rintro _ ⟨hb, -⟩; exact (x_ld (v := .pointer (some ⟨d, 0, none⟩)) ty62 rfl rfl (hb.cl.field (i := 0) rfl))) ?_
          refine RT.takeP (v := .int .i64 (max (lastP pl) 1)) 5 rfl (by kernel_rfl) (.inr ⟨hb, trivial⟩) (fun _ => (x_moveI rfl)) ?_
          refine RT.takeP (v := .slice (a_71) ((frameB xs).length) (c_72)) 7 rfl (by kernel_rfl) (.inr ⟨hb, trivial⟩) (fun _ => (x_moveSl rfl)) ?_
          refine RT.st 6 rfl (by kernel_rfl) rfl <| St1.call (vals := [.int .i64 (max (lastP pl) 1)]) en66 rfl (segName_ (max (lastP pl) 1) _ hL) ?_
          rintro _ w_83 ⟨rfl, K_84⟩
          replace hb := hb.ext K_84
          replace hD := hD.ext K_84
          replace hL := hL.ext K_84
          replace ho_74 := ho_74.ext K_84
          replace K0 := K0.ext K_84
          refine ⟨.inr ⟨hb, trivial⟩, ?_⟩
          refine RT.st 8 rfl (by kernel_rfl) rfl <| St1.call (vals := [.pointer (some ⟨d, 0, none⟩), .string (nameS (max (lastP pl) 1)), .slice (a_71) ((frameB xs).length) (c_72)]) en69 rfl (appendD hD (nameS (max (lastP pl) 1)) _ _ _ (by first | omega | decide) ho_74.sl (fun x_ hx_ => pr_78 _ ⟨x_, hx_, rfl⟩) (by first | omega | decide)) ?_
          rintro _ w_86 ⟨F_85, rfl, hD_87, hm_88, K_89⟩
          have pr_90 : ¬ F_85 b := hm_88.not hbd hb.lt
          have pr_91 : ∀ q_, F_85 q_ → ¬ own a_71 q_ := hm_88.apart (fun q_ h1 h2 => pr_78 q_ h2 h1) ho_74.own_lt
          have pg_92 : ∀ q_, F_85 q_ → q_ < w.heap.size → F q_ := hm_88.inS (fun q_ h_ _ => h_) K0.size
          have pG_93 : ∀ q_, F_85 q_ → 7 ≤ q_ := fun q_ h_ => (hm_88 q_ h_).elim (hFG q_) (fun h2_ => Nat.le_trans hLs (Nat.le_trans K0.size h2_))
          replace hb := hb.keep K_89 hbd
          replace hL := hL.keep K_89 hFG
          replace ho_74 := ho_74.keepO K_89 pr_78
          replace K0 := K0.trans K_89 (fun x hlt hx => (fun q_ h_ _ => h_) x hx hlt)
          clear hm_88
          refine ⟨.inr ⟨hb, trivial⟩, ?_⟩
          refine RT.takeP (v := .int .i64 (appE room pl (nameS (max (lastP pl) 1)) (frameB xs))) 9 rfl (by kernel_rfl) (.inr ⟨hb, trivial⟩) (fun _ => (x_assignI rfl)) ?_
          refine RT.done (by kernel_rfl) ?_
          refine Run.ret1 (v := .int .i64 (appE room pl (nameS (max (lastP pl) 1)) (frameB xs))) Tryz.func27 rfl rfl ?_
          have hEq : appendP room pl xs = (appE room pl (nameS (max (lastP pl) 1)) (frameB xs), appL room pl (nameS (max (lastP pl) 1)) (frameB xs)) := by rw [appendP, if_neg (by rw [hm0]; decide), if_neg (by omega), if_neg (by omega)]
          rw [hEq]
          exact ⟨_, rfl, F_85, rfl, hD_87, movedS_foot pg_92, K0⟩

theorem read_A (b d : Nat) (F : Nat → Prop) (room : Int) (pl : List PF) (w : World) (hb : Blk w b [.pointer (some ⟨d, 0, none⟩)] 122) (hD : DiskAt w d F room pl) (hbd : ¬ F b) (hL : LaidOk w) (hFG : ∀ q, F q → 7 ≤ q) : Calls Tryz.prog 134 #[.pointer (some ⟨b, 0, none⟩)] w (Ret fun v w' => ∃ F', DiskAt w' d F' room ((readAll room pl)).2.2 ∧ MovedS w F F' ∧ Keeps F w w' ∧ ((((readAll room pl)).1 = 0 ∧ ∃ a' c', ∃ rs : List RB, v = .tuple #[.slice a' (rs.map RB.h).length c', .int .i64 0] ∧  OwnSl w' 74 a' c' (rs.map RB.h) ∧ RecsO w' rs ∧ rs.map RB.b = ((readAll room pl)).2.1 ∧ (∀ q, own a' q → w.heap.size ≤ q) ∧ (∀ q, recsS rs q → w.heap.size ≤ q) ∧ (∀ q, own a' q → ¬ recsS rs q) ∧ (∀ q, own a' q → ¬ F' q) ∧ (∀ q, recsS rs q → ¬ F' q)) ∨ (((readAll room pl)).1 ≠ 0 ∧ v = .tuple #[.slice none 0 0, .int .i64 ((readAll room pl)).1]))) := by
  unfold readAll
  exact read__ b d F room pl w hb hD hbd hL hFG

set_option maxRecDepth 100000 in
set_option maxHeartbeats 4000000 in
theorem open7_ (d : Nat) (F : Nat → Prop) (room : Int) (pl : List PF) (w : World) (hD : DiskAt w d F room pl) (hL : LaidOk w) (hFG : ∀ q, F q → 7 ≤ q) :
    Calls Tryz.prog 94 #[.pointer (some ⟨d, 0, none⟩)] w (Ret (fun v w' => ∃ F', DiskAt w' d F' room ((openP room pl)).2.2 ∧ MovedS w F F' ∧ Keeps F w w' ∧ ((((openP room pl)).1 = 0 ∧ ∃ a' c', ∃ rs : List RB, ∃ b, v = .tuple #[.pointer (some ⟨b, 0, none⟩), .slice a' (rs.map RB.h).length c', .int .i64 0] ∧ Blk w' b [.pointer (some ⟨d, 0, none⟩)] 122 ∧ ¬ F' b ∧ w.heap.size ≤ b ∧ OwnSl w' 74 a' c' (rs.map RB.h) ∧ RecsO w' rs ∧ rs.map RB.b = ((openP room pl)).2.1 ∧ (∀ q, own a' q → w.heap.size ≤ q) ∧ (∀ q, recsS rs q → w.heap.size ≤ q) ∧ (∀ q, own a' q → ¬ recsS rs q) ∧ (∀ q, own a' q → ¬ F' q) ∧ (∀ q, recsS rs q → ¬ F' q)) ∨ (((openP room pl)).1 ≠ 0 ∧ v = .tuple #[.pointer none, .slice none 0 0, .int .i64 ((openP room pl)).1])))) := by
  have hLs := hL.size
  have hfs : freshN.size = 7 := rfl
  refine calls_run (n := 60) Tryz.func94 rfl rfl rfl ?_
  refine Run.seq ?_
  refine Run.region ?_
  refine RL.val (x_assignP rfl) ?_
  refine RL.val (x_assignSl rfl) ?_
  refine RL.val (x_assignI rfl) ?_
  refine RL.nil ?_
  refine Run.seq ?_
  by_cases hfr : hasL pl freshN = true
  · refine Run.region ?_
    refine RL.val (x_moveP rfl) ?_
    refine RL.st rfl <| St1.call (vals := [.pointer (some ⟨d, 0, none⟩), .string (freshN)]) en65 rfl (sizeDE hD freshN (by first | omega | decide) 0 (look_has fresh_may hfr)) ?_
    rintro _ w_1 ⟨rfl, K_2⟩
    replace hD := hD.ext K_2
    replace hL := hL.ext K_2
    have K0 := (K_2 : Ext w _).to (S := F)
    refine RL.val (x_moveT rfl) ?_
    refine RL.val (x_extract rfl rfl) ?_
    refine RL.val (x_extract rfl rfl) ?_
    refine RL.val (x_extract rfl rfl) ?_
    refine RL.val (x_assignI rfl) ?_
    refine RL.val (x_assignI rfl) ?_
    refine RL.val (x_assignI rfl) ?_
    refine RL.nil ?_
    refine Run.seq ?_
    refine Run.seq ?_
    refine Run.region ?_
    refine RL.val (x_moveI rfl) ?_
    refine RL.nil ?_
    refine Run.block ?_
    refine Run.seq ?_
    refine Run.region ?_
    refine RL.val (litF (x_eqI rfl rfl) (by decide)) ?_
    refine RL.val (x_assignB rfl) ?_
    refine RL.nil ?_
    refine Run.condF rfl ?_
    refine Run.seq ?_
    refine Run.region ?_
    refine RL.val (litT (x_eqI rfl rfl) (by decide)) ?_
    refine RL.val (x_assignB rfl) ?_
    refine RL.nil ?_
    refine Run.condT rfl ?_
    refine Run.seq ?_
    refine Run.region ?_
    refine RL.val (x_moveP rfl) ?_
    refine RL.st rfl <| St1.call (vals := [.pointer (some ⟨d, 0, none⟩), .string (freshN)]) en85 rfl (dcast (removeD hD freshN (by first | omega | decide)) (look_has fresh_may hfr) rfl) ?_
    rintro _ w_4 ⟨F_3, rfl, hD_5, hm_6, K_7⟩
    have pg_8 : ∀ q_, F_3 q_ → q_ < w.heap.size → F q_ := hm_6.inS (fun q_ h_ _ => h_) K0.size
    have pG_9 : ∀ q_, F_3 q_ → 7 ≤ q_ := fun q_ h_ => (hm_6 q_ h_).elim (hFG q_) (fun h2_ => Nat.le_trans hLs (Nat.le_trans K0.size h2_))
    replace hL := hL.keep K_7 hFG
    replace K0 := K0.trans K_7 (fun x hlt hx => (fun q_ h_ _ => h_) x hx hlt)
    clear hm_6
    refine RL.val (x_assignI rfl) ?_
    refine RL.nil ?_
    refine Run.seq ?_
    refine Run.region ?_
    refine RL.val (x_moveI rfl) ?_
    refine RL.val (litF (x_neI rfl rfl) (by decide)) ?_
    refine RL.nil ?_
    refine Run.condF rfl ?_
    refine Run.skip ?_
    refine Run.inBlock ?_
    refine Run.seq ?_
    refine Run.region ?_
    refine RL.val (x_moveP rfl) ?_
    refine RL.val (x_build (cells := #[.pointer (some ⟨d, 0, none⟩)]) (by kernel_rfl)) ?_
    refine RL.val (x_build (cells := #[.pointer (some ⟨d, 0, none⟩)]) (by kernel_rfl)) ?_
    refine RL.st rfl <| St1.box (v := .agg #[.pointer (some ⟨d, 0, none⟩)]) rfl ?_
    intro b_10 w_11 hl_14 hb_13 K_12
    replace hb_13 : Blk w_11 b_10 [.pointer (some ⟨d, 0, none⟩)] 122 := hb_13
    have pr_15 : ¬ F_3 b_10 := fun h => absurd (hD_5.own_lt _ h) (by omega)
    have : w.heap.size ≤ b_10 := Nat.le_trans K0.size hl_14
    clear hl_14
    replace hL := hL.ext K_12
    replace hD_5 := hD_5.ext K_12
    replace K0 := K0.ext K_12
    refine RL.val (x_assignP rfl) ?_
    refine RL.nil ?_
    refine Run.seq ?_
    refine Run.region ?_
    refine RL.val (x_moveP rfl) ?_
    refine RL.val (x_nilCheck rfl) ?_
    refine RL.val (x_fld (o' := 0) Tryz.underlying122 rfl ty120 rfl rfl rfl) ?_
    refine RL.st rfl <| St1.call (vals := [.pointer (some ⟨b_10, 0, none⟩)]) en134 rfl (read_A _ _ _ _ _  _ hb_13 hD_5 pr_15 hL pG_9 ) ?_
    rintro vv w_17 ⟨F_16, hD_18, hm_19, K_20, hcs_21⟩
    rcases hcs_21 with hcs_21 | hcs_21
    · obtain ⟨he_22, a_23, c_24, rs_25, rfl, ho_26, hR_27, hms_28, hg_29, hg_30, hap_31, hf_32, hf_33⟩ := hcs_21
      have pr_38 : ∀ q_, own a_23 q_ → ¬ F_3 q_ := apartNew hg_29 hD_5.own_lt
      have pr_39 : ¬ own a_23 b_10 := notNew hg_29 hb_13.lt
      have pg_40 : ∀ q_, own a_23 q_ → q_ < w.heap.size → F q_ := fun q_ h hlt => absurd (Nat.le_trans K0.size (hg_29 q_ h)) (by omega)
      have pw_41 : ∀ q_, own a_23 q_ → w.heap.size ≤ q_ := fun q_ h => Nat.le_trans K0.size (hg_29 q_ h)
      have pr_42 : ∀ q_, recsS (rs_25) q_ → ¬ F_3 q_ := apartNew hg_30 hD_5.own_lt
      have pr_43 : ¬ recsS (rs_25) b_10 := notNew hg_30 hb_13.lt
      have pg_44 : ∀ q_, recsS (rs_25) q_ → q_ < w.heap.size → F q_ := fun q_ h hlt => absurd (Nat.le_trans K0.size (hg_30 q_ h)) (by omega)
      have pw_45 : ∀ q_, recsS (rs_25) q_ → w.heap.size ≤ q_ := fun q_ h => Nat.le_trans K0.size (hg_30 q_ h)
      have pr_46 : ¬ F_16 b_10 := hm_19.not pr_15 hb_13.lt
      have pg_47 : ∀ q_, F_16 q_ → q_ < w.heap.size → F q_ := hm_19.inS pg_8 K0.size
      have pG_48 : ∀ q_, F_16 q_ → 7 ≤ q_ := fun q_ h_ => (hm_19 q_ h_).elim (pG_9 q_) (fun h2_ => Nat.le_trans hLs (Nat.le_trans K0.size h2_))
      replace hL := hL.keep K_20 pG_9
      replace hb_13 := hb_13.keep K_20 pr_15
      replace K0 := K0.trans K_20 (fun x hlt hx => pg_8 x hx hlt)
      clear hm_19
      refine RL.val (x_moveT rfl) ?_
      refine RL.val (x_extract rfl rfl) ?_
      refine RL.val (x_extract rfl rfl) ?_
      refine RL.val (x_assignSl rfl) ?_
      refine RL.val (x_assignI rfl) ?_
      refine RL.nil ?_
      refine Run.seq ?_
      refine Run.seq ?_
      refine Run.region ?_
      refine RL.val (x_moveI rfl) ?_
      refine RL.val (litF (x_neI rfl rfl) (by decide)) ?_
      refine RL.nil ?_
      refine Run.condF rfl ?_
      refine Run.skip ?_
      refine Run.seq ?_
      refine Run.seq ?_
      refine Run.region ?_
      refine RL.val (x_moveP rfl) ?_
      refine RL.st rfl <| St1.call (vals := [.pointer (some ⟨b_10, 0, none⟩)]) en83 rfl (lsegs_ _ _ _ _ _ _ hb_13 hD_18 pr_46 hL) ?_
      rintro _ w_51 ⟨a_49, c_50, rfl, ho_52, hg_53, K_54⟩
      have pr_55 : ¬ own a_49 b_10 := notNew hg_53 hb_13.lt
      have pr_56 : ∀ q_, own a_49 q_ → ¬ F_16 q_ := apartNew hg_53 hD_18.own_lt
      have pr_57 : ∀ q_, own a_49 q_ → ¬ own a_23 q_ := apartNew hg_53 ho_26.own_lt
      have pr_58 : ∀ q_, own a_49 q_ → ¬ recsS (rs_25) q_ := apartNew hg_53 hR_27.own_lt
      have pg_59 : ∀ q_, own a_49 q_ → q_ < w.heap.size → F q_ := fun q_ h hlt => absurd (Nat.le_trans K0.size (hg_53 q_ h)) (by omega)
      have pw_60 : ∀ q_, own a_49 q_ → w.heap.size ≤ q_ := fun q_ h => Nat.le_trans K0.size (hg_53 q_ h)
      clear hg_53
      replace hL := hL.ext K_54
      replace hb_13 := hb_13.ext K_54
      replace hD_18 := hD_18.ext K_54
      replace ho_26 := ho_26.ext K_54
      replace hR_27 := hR_27.ext K_54
      replace K0 := K0.ext K_54
      refine RL.val (x_lenSl Tryz.underlying130 rfl) ?_
      refine RL.val (x_moveI rfl) ?_
      refine RL.nil ?_
      have hsl := segsL_len (readAll room (remL pl freshN)).2.2
      have hlen2 := (hD_18).ok.len
      refine Run.block ?_
      refine Run.loop (ι := Nat) (fun i ρ' w' => ∃ Fk : Nat → Prop, Holds ρ' [(0, .pointer (some ⟨d, 0, none⟩)), (8, .pointer (some ⟨b_10, 0, none⟩)), (9, .slice (a_23) ((rs_25.map RB.h).length) (c_24)), (44, .slice (a_49) ((segsL ((readAll room (remL pl freshN)).2.2)).length) (c_50)), (45, .int .i64 ((((segsL ((readAll room (remL pl freshN)).2.2)).length : Nat) : Int))), (46, .int .i64 (((i : Nat) : Int))), (7, .int .i64 (0))] ∧ Keeps F w w' ∧ (LaidOk w') ∧ (Blk w' b_10 [.pointer (some ⟨d, 0, none⟩)] 122) ∧ (OwnSl w' 74 (a_23) (c_24) (rs_25.map RB.h)) ∧ (RecsO w' (rs_25)) ∧ (OwnSl w' 3 (a_49) (c_50) (segsL ((readAll room (remL pl freshN)).2.2))) ∧ (DiskAt w' d Fk room (syncsL (readAll room (remL pl freshN)).2.2 ((segsL (readAll room (remL pl freshN)).2.2).take i))) ∧ (¬ Fk b_10) ∧ (∀ q_, Fk q_ → ¬ own a_23 q_) ∧ (∀ q_, Fk q_ → ¬ recsS (rs_25) q_) ∧ (∀ q_, Fk q_ → ¬ own a_49 q_) ∧ (∀ q_, Fk q_ → q_ < w.heap.size → F q_) ∧ (∀ q_, Fk q_ → 7 ≤ q_) ∧ (i ≤ (segsL (readAll room (remL pl freshN)).2.2).length)) (fun i => (segsL (readAll room (remL pl freshN)).2.2).length - i) 0 ?_ ?_
      · rw [show syncsL (readAll room (remL pl freshN)).2.2 ((segsL (readAll room (remL pl freshN)).2.2).take 0) = (readAll room (remL pl freshN)).2.2 by rw [List.take_zero, syncsL_nil]]
        refine ⟨_, ⟨rfl, rfl, rfl, rfl, rfl, rfl, rfl, trivial⟩, K0, hL, hb_13, ho_26, hR_27, ho_52, hD_18, pr_46, (fun q_ h1 h2 => hf_32 q_ h2 h1), (fun q_ h1 h2 => hf_33 q_ h2 h1), (fun q_ h1 h2 => pr_56 q_ h2 h1), pg_47, pG_48, ?_⟩
        · omega
      clear hb_13 hD_18 ho_26 hR_27 ho_52
      clear K0
      rintro i ρ_70 w_61 ⟨Fk, hH_62, K0, hL, hb_13, ho_26, hR_27, ho_52, hO_63, pr_64, pr_65, pr_66, pr_67, pr_68, pr_69, hi⟩ ih1
      obtain ⟨ρ₀, rfl⟩ := hH_62.ex
      clear hH_62
      refine Run.seq ?_
      refine Run.region ?_
      refine RL.val (x_ltI rfl rfl) ?_
      refine RL.nil ?_
      refine Run.seq ?_
      refine Run.cond rfl (fun hc47 => ?_) (fun hc47 => ?_)
      · try simp only [br] at hc47
        refine Run.skip ?_
        refine Run.seq ?_
        refine Run.block ?_
        refine Run.seq ?_
        refine Run.region ?_
        obtain ⟨b_71, o_72, n, hn, ha_73, hc_74⟩ := ho_52.sl.el (i := i) (by first | omega | (simp only [List.length_set]; omega))
        refine RL.val (x_idxN Tryz.underlying130 ty3 rfl rfl ha_73 (by first | omega | (simp only [List.length_set]; omega))) ?_
        refine RL.val (x_ldV (v := .int .i64 (n)) (y := n) ty3 rfl hc_74 rfl) ?_
        refine RL.val (x_assignI rfl) ?_
        refine RL.nil ?_
        refine Run.seq ?_
        have hnm := nameS_may n
        refine Run.region ?_
        refine RL.val (x_moveP rfl) ?_
        refine RL.val (x_moveI rfl) ?_
        refine RL.st rfl <| St1.call (vals := [.int .i64 (n)]) en66 rfl (segName_ n _ hL) ?_
        rintro _ w_77 ⟨rfl, K_78⟩
        replace hL := hL.ext K_78
        replace hb_13 := hb_13.ext K_78
        replace ho_26 := ho_26.ext K_78
        replace hR_27 := hR_27.ext K_78
        replace ho_52 := ho_52.ext K_78
        replace hO_63 := hO_63.ext K_78
        replace K0 := K0.ext K_78
        refine RL.st rfl <| St1.call (vals := [.pointer (some ⟨d, 0, none⟩), .string (nameS n)]) en67 rfl (dcast (syncD hO_63 (nameS n) (by first | omega | decide)) (look_has (name_may (segsL_mem.1 (List.mem_of_getElem? hn)).1 (segsL_mem.1 (List.mem_of_getElem? hn)).2.1) (has_syncs (segsL_mem.1 (List.mem_of_getElem? hn)).2.2)) rfl) ?_
        rintro _ w_80 ⟨F_79, rfl, hD_81, hm_82, K_83⟩
        have pr_84 : ¬ F_79 b_10 := hm_82.not pr_64 hb_13.lt
        have pr_85 : ∀ q_, F_79 q_ → ¬ own a_23 q_ := hm_82.apart pr_65 ho_26.own_lt
        have pr_86 : ∀ q_, F_79 q_ → ¬ recsS (rs_25) q_ := hm_82.apart pr_66 hR_27.own_lt
        have pr_87 : ∀ q_, F_79 q_ → ¬ own a_49 q_ := hm_82.apart pr_67 ho_52.own_lt
        have pg_88 : ∀ q_, F_79 q_ → q_ < w.heap.size → F q_ := hm_82.inS pr_68 K0.size
        have pG_89 : ∀ q_, F_79 q_ → 7 ≤ q_ := fun q_ h_ => (hm_82 q_ h_).elim (pr_69 q_) (fun h2_ => Nat.le_trans hLs (Nat.le_trans K0.size h2_))
        replace hL := hL.keep K_83 pr_69
        replace hb_13 := hb_13.keep K_83 pr_64
        replace ho_26 := ho_26.keepO K_83 (fun q_ h1 h2 => pr_65 q_ h2 h1)
        replace hR_27 := hR_27.keepO K_83 (fun q_ h1 h2 => pr_66 q_ h2 h1)
        replace ho_52 := ho_52.keepO K_83 (fun q_ h1 h2 => pr_67 q_ h2 h1)
        replace K0 := K0.trans K_83 (fun x hlt hx => pr_68 x hx hlt)
        clear hm_82
        refine RL.val (x_assignI rfl) ?_
        refine RL.nil ?_
        refine Run.seq ?_
        refine Run.region ?_
        refine RL.val (x_moveI rfl) ?_
        refine RL.val (litF (x_neI rfl rfl) (by decide)) ?_
        refine RL.nil ?_
        refine Run.condF rfl ?_
        refine Run.skip ?_
        refine Run.inBlock ?_
        refine Run.region ?_
        refine RL.val (litI (c := ((i + 1 : Nat) : Int)) (x_add rfl rfl (by omega) (by omega)) rfl) ?_
        refine RL.val (x_moveI rfl) ?_
        refine RL.nil ?_
        have e := syncsL_at (pl := (readAll room (remL pl freshN)).2.2) hn
        refine ih1 (i + 1) _ _ ?_ (by omega)
        rw [e]
        refine ⟨_, ⟨rfl, rfl, rfl, rfl, rfl, rfl, rfl, trivial⟩, K0, hL, hb_13, ho_26, hR_27, ho_52, hD_81, pr_84, pr_85, pr_86, pr_87, pg_88, pG_89, ?_⟩
        · omega
      · try simp only [br] at hc47
        refine Run.exit rfl ?_
        refine Run.seq ?_
        refine Run.region ?_
        refine RL.val (x_moveP rfl) ?_
        refine RL.val (x_moveSl rfl) ?_
        refine RL.val (x_assignP rfl) ?_
        refine RL.val (x_assignSl rfl) ?_
        refine RL.val (x_assignI rfl) ?_
        refine RL.nil ?_
        refine Run.ret3 (v := .pointer (some ⟨b_10, 0, none⟩)) (x := .slice (a_23) ((rs_25.map RB.h).length) (c_24)) (y := .int .i64 (0)) Tryz.func94 rfl rfl rfl rfl ?_
        have hie : i = (segsL (readAll room (remL pl freshN)).2.2).length := by omega
        subst hie
        rw [List.take_length] at hO_63
        have hEq : openP room pl = (0, (readAll room (remL pl freshN)).2.1, syncsL (readAll room (remL pl freshN)).2.2 (segsL (readAll room (remL pl freshN)).2.2)) := by rw [openP, if_pos he_22]
        rw [hEq]
        exact ⟨_, rfl, Fk, hO_63, movedS_foot pr_68, K0, .inl ⟨rfl, a_23, c_24, _, b_10, rfl, hb_13, pr_64, by omega, ho_26, hR_27, hms_28, pw_41, pw_45, hap_31, (fun q_ h1 h2 => pr_65 q_ h2 h1), (fun q_ h1 h2 => pr_66 q_ h2 h1)⟩⟩
    · obtain ⟨he_90, rfl⟩ := hcs_21
      have pr_91 : ¬ F_16 b_10 := hm_19.not pr_15 hb_13.lt
      have pg_92 : ∀ q_, F_16 q_ → q_ < w.heap.size → F q_ := hm_19.inS pg_8 K0.size
      have pG_93 : ∀ q_, F_16 q_ → 7 ≤ q_ := fun q_ h_ => (hm_19 q_ h_).elim (pG_9 q_) (fun h2_ => Nat.le_trans hLs (Nat.le_trans K0.size h2_))
      replace hL := hL.keep K_20 pG_9
      replace hb_13 := hb_13.keep K_20 pr_15
      replace K0 := K0.trans K_20 (fun x hlt hx => pg_8 x hx hlt)
      clear hm_19
      refine RL.val (x_moveT rfl) ?_
      refine RL.val (x_extract rfl rfl) ?_
      refine RL.val (x_extract rfl rfl) ?_
      refine RL.val (x_assignSl rfl) ?_
      refine RL.val (x_assignI rfl) ?_
      refine RL.nil ?_
      refine Run.seq ?_
      refine Run.seq ?_
      refine Run.region ?_
      refine RL.val (x_moveI rfl) ?_
      refine RL.val (x_neI rfl rfl) ?_
      refine RL.nil ?_
      refine Run.cond rfl (fun hc41 => ?_) (fun hc41 => ?_)
      · try simp only [br] at hc41
        refine Run.seq ?_
        refine Run.region ?_
        refine RL.val (x_moveI rfl) ?_
        refine RL.val (x_assignP rfl) ?_
        refine RL.val (x_assignSl rfl) ?_
        refine RL.val (x_assignI rfl) ?_
        refine RL.nil ?_
        refine Run.ret3 (v := .pointer none) (x := .slice (none) (0) (0)) (y := .int .i64 ((readAll room (remL pl freshN)).1)) Tryz.func94 rfl rfl rfl rfl ?_
        have hEq : openP room pl = ((readAll room (remL pl freshN)).1, [], (readAll room (remL pl freshN)).2.2) := by rw [openP, if_neg he_90]
        rw [hEq]
        exact ⟨_, rfl, F_16, hD_18, movedS_foot pg_92, K0, .inr ⟨he_90, rfl⟩⟩
      · try simp only [br] at hc41
        exact absurd hc41 he_90
  · refine Run.region ?_
    refine RL.val (x_moveP rfl) ?_
    refine RL.st rfl <| St1.call (vals := [.pointer (some ⟨d, 0, none⟩), .string (freshN)]) en65 rfl (sizeDE hD freshN (by first | omega | decide) 20 (look_fresh_no (by simpa using hfr))) ?_
    rintro _ w_94 ⟨rfl, K_95⟩
    replace hD := hD.ext K_95
    replace hL := hL.ext K_95
    have K0 := (K_95 : Ext w _).to (S := F)
    refine RL.val (x_moveT rfl) ?_
    refine RL.val (x_extract rfl rfl) ?_
    refine RL.val (x_extract rfl rfl) ?_
    refine RL.val (x_extract rfl rfl) ?_
    refine RL.val (x_assignI rfl) ?_
    refine RL.val (x_assignI rfl) ?_
    refine RL.val (x_assignI rfl) ?_
    refine RL.nil ?_
    refine Run.seq ?_
    refine Run.seq ?_
    refine Run.region ?_
    refine RL.val (x_moveI rfl) ?_
    refine RL.nil ?_
    refine Run.block ?_
    refine Run.seq ?_
    refine Run.region ?_
    refine RL.val (litF (x_eqI rfl rfl) (by decide)) ?_
    refine RL.val (x_assignB rfl) ?_
    refine RL.nil ?_
    refine Run.condF rfl ?_
    refine Run.seq ?_
    refine Run.region ?_
    refine RL.val (litF (x_eqI rfl rfl) (by decide)) ?_
    refine RL.val (x_assignB rfl) ?_
    refine RL.nil ?_
    refine Run.condF rfl ?_
    refine Run.skip ?_
    refine Run.inBlock ?_
    refine Run.seq ?_
    rw [show pl = remL pl freshN from (rem_no (by simpa using hfr)).symm] at hD
    refine Run.region ?_
    refine RL.val (x_moveP rfl) ?_
    refine RL.val (x_build (cells := #[.pointer (some ⟨d, 0, none⟩)]) (by kernel_rfl)) ?_
    refine RL.val (x_build (cells := #[.pointer (some ⟨d, 0, none⟩)]) (by kernel_rfl)) ?_
    refine RL.st rfl <| St1.box (v := .agg #[.pointer (some ⟨d, 0, none⟩)]) rfl ?_
    intro b_96 w_97 hl_100 hb_99 K_98
    replace hb_99 : Blk w_97 b_96 [.pointer (some ⟨d, 0, none⟩)] 122 := hb_99
    have pr_101 : ¬ F b_96 := fun h => absurd (hD.own_lt _ h) (by omega)
    have : w.heap.size ≤ b_96 := Nat.le_trans K0.size hl_100
    clear hl_100
    replace hD := hD.ext K_98
    replace hL := hL.ext K_98
    replace K0 := K0.ext K_98
    refine RL.val (x_assignP rfl) ?_
    refine RL.nil ?_
    refine Run.seq ?_
    refine Run.region ?_
    refine RL.val (x_moveP rfl) ?_
    refine RL.val (x_nilCheck rfl) ?_
    refine RL.val (x_fld (o' := 0) Tryz.underlying122 rfl ty120 rfl rfl rfl) ?_
    refine RL.st rfl <| St1.call (vals := [.pointer (some ⟨b_96, 0, none⟩)]) en134 rfl (read_A _ _ _ _ _  _ hb_99 hD pr_101 hL hFG ) ?_
    rintro vv w_103 ⟨F_102, hD_104, hm_105, K_106, hcs_107⟩
    rcases hcs_107 with hcs_107 | hcs_107
    · obtain ⟨he_108, a_109, c_110, rs_111, rfl, ho_112, hR_113, hms_114, hg_115, hg_116, hap_117, hf_118, hf_119⟩ := hcs_107
      have pr_124 : ∀ q_, own a_109 q_ → ¬ F q_ := apartNew hg_115 hD.own_lt
      have pr_125 : ¬ own a_109 b_96 := notNew hg_115 hb_99.lt
      have pg_126 : ∀ q_, own a_109 q_ → q_ < w.heap.size → F q_ := fun q_ h hlt => absurd (Nat.le_trans K0.size (hg_115 q_ h)) (by omega)
      have pw_127 : ∀ q_, own a_109 q_ → w.heap.size ≤ q_ := fun q_ h => Nat.le_trans K0.size (hg_115 q_ h)
      have pr_128 : ∀ q_, recsS (rs_111) q_ → ¬ F q_ := apartNew hg_116 hD.own_lt
      have pr_129 : ¬ recsS (rs_111) b_96 := notNew hg_116 hb_99.lt
      have pg_130 : ∀ q_, recsS (rs_111) q_ → q_ < w.heap.size → F q_ := fun q_ h hlt => absurd (Nat.le_trans K0.size (hg_116 q_ h)) (by omega)
      have pw_131 : ∀ q_, recsS (rs_111) q_ → w.heap.size ≤ q_ := fun q_ h => Nat.le_trans K0.size (hg_116 q_ h)
      have pr_132 : ¬ F_102 b_96 := hm_105.not pr_101 hb_99.lt
      have pg_133 : ∀ q_, F_102 q_ → q_ < w.heap.size → F q_ := hm_105.inS (fun q_ h_ _ => h_) K0.size
      have pG_134 : ∀ q_, F_102 q_ → 7 ≤ q_ := fun q_ h_ => (hm_105 q_ h_).elim (hFG q_) (fun h2_ => Nat.le_trans hLs (Nat.le_trans K0.size h2_))
      replace hL := hL.keep K_106 hFG
      replace hb_99 := hb_99.keep K_106 pr_101
      replace K0 := K0.trans K_106 (fun x hlt hx => (fun q_ h_ _ => h_) x hx hlt)
      clear hm_105
      refine RL.val (x_moveT rfl) ?_
      refine RL.val (x_extract rfl rfl) ?_
      refine RL.val (x_extract rfl rfl) ?_
      refine RL.val (x_assignSl rfl) ?_
      refine RL.val (x_assignI rfl) ?_
      refine RL.nil ?_
      refine Run.seq ?_
      refine Run.seq ?_
      refine Run.region ?_
      refine RL.val (x_moveI rfl) ?_
      refine RL.val (litF (x_neI rfl rfl) (by decide)) ?_
      refine RL.nil ?_
      refine Run.condF rfl ?_
      refine Run.skip ?_
      refine Run.seq ?_
      refine Run.seq ?_
      refine Run.region ?_
      refine RL.val (x_moveP rfl) ?_
      refine RL.st rfl <| St1.call (vals := [.pointer (some ⟨b_96, 0, none⟩)]) en83 rfl (lsegs_ _ _ _ _ _ _ hb_99 hD_104 pr_132 hL) ?_
      rintro _ w_137 ⟨a_135, c_136, rfl, ho_138, hg_139, K_140⟩
      have pr_141 : ¬ own a_135 b_96 := notNew hg_139 hb_99.lt
      have pr_142 : ∀ q_, own a_135 q_ → ¬ F_102 q_ := apartNew hg_139 hD_104.own_lt
      have pr_143 : ∀ q_, own a_135 q_ → ¬ own a_109 q_ := apartNew hg_139 ho_112.own_lt
      have pr_144 : ∀ q_, own a_135 q_ → ¬ recsS (rs_111) q_ := apartNew hg_139 hR_113.own_lt
      have pg_145 : ∀ q_, own a_135 q_ → q_ < w.heap.size → F q_ := fun q_ h hlt => absurd (Nat.le_trans K0.size (hg_139 q_ h)) (by omega)
      have pw_146 : ∀ q_, own a_135 q_ → w.heap.size ≤ q_ := fun q_ h => Nat.le_trans K0.size (hg_139 q_ h)
      clear hg_139
      replace hL := hL.ext K_140
      replace hb_99 := hb_99.ext K_140
      replace hD_104 := hD_104.ext K_140
      replace ho_112 := ho_112.ext K_140
      replace hR_113 := hR_113.ext K_140
      replace K0 := K0.ext K_140
      refine RL.val (x_lenSl Tryz.underlying130 rfl) ?_
      refine RL.val (x_moveI rfl) ?_
      refine RL.nil ?_
      have hsl := segsL_len (readAll room (remL pl freshN)).2.2
      have hlen2 := (hD_104).ok.len
      refine Run.block ?_
      refine Run.loop (ι := Nat) (fun i ρ' w' => ∃ Fk : Nat → Prop, Holds ρ' [(0, .pointer (some ⟨d, 0, none⟩)), (8, .pointer (some ⟨b_96, 0, none⟩)), (9, .slice (a_109) ((rs_111.map RB.h).length) (c_110)), (44, .slice (a_135) ((segsL ((readAll room (remL pl freshN)).2.2)).length) (c_136)), (45, .int .i64 ((((segsL ((readAll room (remL pl freshN)).2.2)).length : Nat) : Int))), (46, .int .i64 (((i : Nat) : Int))), (7, .int .i64 (0))] ∧ Keeps F w w' ∧ (LaidOk w') ∧ (Blk w' b_96 [.pointer (some ⟨d, 0, none⟩)] 122) ∧ (OwnSl w' 74 (a_109) (c_110) (rs_111.map RB.h)) ∧ (RecsO w' (rs_111)) ∧ (OwnSl w' 3 (a_135) (c_136) (segsL ((readAll room (remL pl freshN)).2.2))) ∧ (DiskAt w' d Fk room (syncsL (readAll room (remL pl freshN)).2.2 ((segsL (readAll room (remL pl freshN)).2.2).take i))) ∧ (¬ Fk b_96) ∧ (∀ q_, Fk q_ → ¬ own a_109 q_) ∧ (∀ q_, Fk q_ → ¬ recsS (rs_111) q_) ∧ (∀ q_, Fk q_ → ¬ own a_135 q_) ∧ (∀ q_, Fk q_ → q_ < w.heap.size → F q_) ∧ (∀ q_, Fk q_ → 7 ≤ q_) ∧ (i ≤ (segsL (readAll room (remL pl freshN)).2.2).length)) (fun i => (segsL (readAll room (remL pl freshN)).2.2).length - i) 0 ?_ ?_
      · rw [show syncsL (readAll room (remL pl freshN)).2.2 ((segsL (readAll room (remL pl freshN)).2.2).take 0) = (readAll room (remL pl freshN)).2.2 by rw [List.take_zero, syncsL_nil]]
        refine ⟨_, ⟨rfl, rfl, rfl, rfl, rfl, rfl, rfl, trivial⟩, K0, hL, hb_99, ho_112, hR_113, ho_138, hD_104, pr_132, (fun q_ h1 h2 => hf_118 q_ h2 h1), (fun q_ h1 h2 => hf_119 q_ h2 h1), (fun q_ h1 h2 => pr_142 q_ h2 h1), pg_133, pG_134, ?_⟩
        · omega
      clear hb_99 hD_104 ho_112 hR_113 ho_138
      clear K0
      rintro i ρ_156 w_147 ⟨Fk, hH_148, K0, hL, hb_99, ho_112, hR_113, ho_138, hO_149, pr_150, pr_151, pr_152, pr_153, pr_154, pr_155, hi⟩ ih2
      obtain ⟨ρ₀, rfl⟩ := hH_148.ex
      clear hH_148
      refine Run.seq ?_
      refine Run.region ?_
      refine RL.val (x_ltI rfl rfl) ?_
      refine RL.nil ?_
      refine Run.seq ?_
      refine Run.cond rfl (fun hc47 => ?_) (fun hc47 => ?_)
      · try simp only [br] at hc47
        refine Run.skip ?_
        refine Run.seq ?_
        refine Run.block ?_
        refine Run.seq ?_
        refine Run.region ?_
        obtain ⟨b_157, o_158, n, hn, ha_159, hc_160⟩ := ho_138.sl.el (i := i) (by first | omega | (simp only [List.length_set]; omega))
        refine RL.val (x_idxN Tryz.underlying130 ty3 rfl rfl ha_159 (by first | omega | (simp only [List.length_set]; omega))) ?_
        refine RL.val (x_ldV (v := .int .i64 (n)) (y := n) ty3 rfl hc_160 rfl) ?_
        refine RL.val (x_assignI rfl) ?_
        refine RL.nil ?_
        refine Run.seq ?_
        have hnm := nameS_may n
        refine Run.region ?_
        refine RL.val (x_moveP rfl) ?_
        refine RL.val (x_moveI rfl) ?_
        refine RL.st rfl <| St1.call (vals := [.int .i64 (n)]) en66 rfl (segName_ n _ hL) ?_
        rintro _ w_163 ⟨rfl, K_164⟩
        replace hL := hL.ext K_164
        replace hb_99 := hb_99.ext K_164
        replace ho_112 := ho_112.ext K_164
        replace hR_113 := hR_113.ext K_164
        replace ho_138 := ho_138.ext K_164
        replace hO_149 := hO_149.ext K_164
        replace K0 := K0.ext K_164
        refine RL.st rfl <| St1.call (vals := [.pointer (some ⟨d, 0, none⟩), .string (nameS n)]) en67 rfl (dcast (syncD hO_149 (nameS n) (by first | omega | decide)) (look_has (name_may (segsL_mem.1 (List.mem_of_getElem? hn)).1 (segsL_mem.1 (List.mem_of_getElem? hn)).2.1) (has_syncs (segsL_mem.1 (List.mem_of_getElem? hn)).2.2)) rfl) ?_
        rintro _ w_166 ⟨F_165, rfl, hD_167, hm_168, K_169⟩
        have pr_170 : ¬ F_165 b_96 := hm_168.not pr_150 hb_99.lt
        have pr_171 : ∀ q_, F_165 q_ → ¬ own a_109 q_ := hm_168.apart pr_151 ho_112.own_lt
        have pr_172 : ∀ q_, F_165 q_ → ¬ recsS (rs_111) q_ := hm_168.apart pr_152 hR_113.own_lt
        have pr_173 : ∀ q_, F_165 q_ → ¬ own a_135 q_ := hm_168.apart pr_153 ho_138.own_lt
        have pg_174 : ∀ q_, F_165 q_ → q_ < w.heap.size → F q_ := hm_168.inS pr_154 K0.size
        have pG_175 : ∀ q_, F_165 q_ → 7 ≤ q_ := fun q_ h_ => (hm_168 q_ h_).elim (pr_155 q_) (fun h2_ => Nat.le_trans hLs (Nat.le_trans K0.size h2_))
        replace hL := hL.keep K_169 pr_155
        replace hb_99 := hb_99.keep K_169 pr_150
        replace ho_112 := ho_112.keepO K_169 (fun q_ h1 h2 => pr_151 q_ h2 h1)
        replace hR_113 := hR_113.keepO K_169 (fun q_ h1 h2 => pr_152 q_ h2 h1)
        replace ho_138 := ho_138.keepO K_169 (fun q_ h1 h2 => pr_153 q_ h2 h1)
        replace K0 := K0.trans K_169 (fun x hlt hx => pr_154 x hx hlt)
        clear hm_168
        refine RL.val (x_assignI rfl) ?_
        refine RL.nil ?_
        refine Run.seq ?_
        refine Run.region ?_
        refine RL.val (x_moveI rfl) ?_
        refine RL.val (litF (x_neI rfl rfl) (by decide)) ?_
        refine RL.nil ?_
        refine Run.condF rfl ?_
        refine Run.skip ?_
        refine Run.inBlock ?_
        refine Run.region ?_
        refine RL.val (litI (c := ((i + 1 : Nat) : Int)) (x_add rfl rfl (by omega) (by omega)) rfl) ?_
        refine RL.val (x_moveI rfl) ?_
        refine RL.nil ?_
        have e := syncsL_at (pl := (readAll room (remL pl freshN)).2.2) hn
        refine ih2 (i + 1) _ _ ?_ (by omega)
        rw [e]
        refine ⟨_, ⟨rfl, rfl, rfl, rfl, rfl, rfl, rfl, trivial⟩, K0, hL, hb_99, ho_112, hR_113, ho_138, hD_167, pr_170, pr_171, pr_172, pr_173, pg_174, pG_175, ?_⟩
        · omega
      · try simp only [br] at hc47
        refine Run.exit rfl ?_
        refine Run.seq ?_
        refine Run.region ?_
        refine RL.val (x_moveP rfl) ?_
        refine RL.val (x_moveSl rfl) ?_
        refine RL.val (x_assignP rfl) ?_
        refine RL.val (x_assignSl rfl) ?_
        refine RL.val (x_assignI rfl) ?_
        refine RL.nil ?_
        refine Run.ret3 (v := .pointer (some ⟨b_96, 0, none⟩)) (x := .slice (a_109) ((rs_111.map RB.h).length) (c_110)) (y := .int .i64 (0)) Tryz.func94 rfl rfl rfl rfl ?_
        have hie : i = (segsL (readAll room (remL pl freshN)).2.2).length := by omega
        subst hie
        rw [List.take_length] at hO_149
        have hEq : openP room pl = (0, (readAll room (remL pl freshN)).2.1, syncsL (readAll room (remL pl freshN)).2.2 (segsL (readAll room (remL pl freshN)).2.2)) := by rw [openP, if_pos he_108]
        rw [hEq]
        exact ⟨_, rfl, Fk, hO_149, movedS_foot pr_154, K0, .inl ⟨rfl, a_109, c_110, _, b_96, rfl, hb_99, pr_150, by omega, ho_112, hR_113, hms_114, pw_127, pw_131, hap_117, (fun q_ h1 h2 => pr_151 q_ h2 h1), (fun q_ h1 h2 => pr_152 q_ h2 h1)⟩⟩
    · obtain ⟨he_176, rfl⟩ := hcs_107
      have pr_177 : ¬ F_102 b_96 := hm_105.not pr_101 hb_99.lt
      have pg_178 : ∀ q_, F_102 q_ → q_ < w.heap.size → F q_ := hm_105.inS (fun q_ h_ _ => h_) K0.size
      have pG_179 : ∀ q_, F_102 q_ → 7 ≤ q_ := fun q_ h_ => (hm_105 q_ h_).elim (hFG q_) (fun h2_ => Nat.le_trans hLs (Nat.le_trans K0.size h2_))
      replace hL := hL.keep K_106 hFG
      replace hb_99 := hb_99.keep K_106 pr_101
      replace K0 := K0.trans K_106 (fun x hlt hx => (fun q_ h_ _ => h_) x hx hlt)
      clear hm_105
      refine RL.val (x_moveT rfl) ?_
      refine RL.val (x_extract rfl rfl) ?_
      refine RL.val (x_extract rfl rfl) ?_
      refine RL.val (x_assignSl rfl) ?_
      refine RL.val (x_assignI rfl) ?_
      refine RL.nil ?_
      refine Run.seq ?_
      refine Run.seq ?_
      refine Run.region ?_
      refine RL.val (x_moveI rfl) ?_
      refine RL.val (x_neI rfl rfl) ?_
      refine RL.nil ?_
      refine Run.cond rfl (fun hc41 => ?_) (fun hc41 => ?_)
      · try simp only [br] at hc41
        refine Run.seq ?_
        refine Run.region ?_
        refine RL.val (x_moveI rfl) ?_
        refine RL.val (x_assignP rfl) ?_
        refine RL.val (x_assignSl rfl) ?_
        refine RL.val (x_assignI rfl) ?_
        refine RL.nil ?_
        refine Run.ret3 (v := .pointer none) (x := .slice (none) (0) (0)) (y := .int .i64 ((readAll room (remL pl freshN)).1)) Tryz.func94 rfl rfl rfl rfl ?_
        have hEq : openP room pl = ((readAll room (remL pl freshN)).1, [], (readAll room (remL pl freshN)).2.2) := by rw [openP, if_neg he_176]
        rw [hEq]
        exact ⟨_, rfl, F_102, hD_104, movedS_foot pg_178, K0, .inr ⟨he_176, rfl⟩⟩
      · try simp only [br] at hc41
        exact absurd hc41 he_176

end Go.Proofs.YtnphndfbgdkgbaaGreatDoor
