/-
  Layer 18's walks, fourth part.
-/
import Derived.Test.YthhhkjmlnjbnjaaRows
import Derived.Test.YthhhkjmlnjbnjaaOd
namespace Go.Proofs.Ythhhkjmlnjbnjaa
attribute [local irreducible] St1 RL RA RT RT1 Run

section
variable {s n cl : Nat} {al : Option Addr} {self now req : Int} {ts us : List (TrS Item)} {w : World}
theorem each_case : ∀ q, eachS s ts q → q = s ∨ trsS ts q := fun _ h => h
theorem each_dis (hos : ¬ own al s) (hto : ∀ q, trsS ts q → ¬ own al q) : ∀ x, al = some x → ¬ eachS s ts x.block := fun x hx h => h.elim (fun e => hos (e ▸ own_sub _ x hx)) (fun h => hto _ h (own_sub _ x hx))
theorem snd_of (hE : EachAt w s al (ts.map TrS.ptr).length cl self now req ts us) (ho : OwnSl w 90 al cl (ts.map TrS.ptr)) (hos : ¬ own al s) (htss : ¬ trsS ts s) (hto : ∀ q, trsS ts q → ¬ own al q) (hok : SOk self now (us.map TrS.p)) :
    SndO w s al cl self now req us := by
  obtain ⟨hB, ⟨hA, hs, hp⟩, hap⟩ := hE
  rw [← hp] at hB ho
  exact ⟨hB, ho, hA, hos, fun h => htss ((hs _).1 h), fun q h => hto q ((hs q).1 h), hok⟩
end

theorem en50 : Enters Try.prog 50 := enters_of Try.func50 rfl (by kernel_rfl)

set_option maxRecDepth 100000 in
set_option maxHeartbeats 4000000 in
theorem tickNil  (t : Int) (w : World) :
    Calls Try.prog 14 #[.pointer none, .int .i64 (t)] w (Ret (fun v w' => v = .slice none 0 0 ∧ Ext w w')) := by
  refine calls_run (n := 24) Try.func14 rfl rfl rfl ?_
  refine Run.seq ?_
  refine Run.region ?_
  refine RL.val (x_assignSl rfl) ?_
  refine RL.nil ?_
  refine Run.seq ?_
  refine Run.seq ?_
  refine Run.region ?_
  refine RL.val (x_moveP rfl) ?_
  refine RL.st rfl <| St1.call (vals := [.pointer none]) en49 rfl (thereNil  _) ?_
  rintro _ w_1 ⟨rfl, K_2⟩
  have K0 := (K_2 : Ext w _)
  refine RL.val (x_not rfl) ?_
  refine RL.nil ?_
  refine Run.condT rfl ?_
  refine Run.seq ?_
  refine Run.region ?_
  refine RL.val (x_assignSl rfl) ?_
  refine RL.nil ?_
  refine Run.ret1 (v := .slice (none) (0) (0)) Try.func14 rfl rfl ?_
  exact ⟨_, rfl, rfl, K0⟩

set_option maxRecDepth 100000 in
set_option maxHeartbeats 4000000 in
theorem tickZero (s : Nat) (t : Int) (w : World) (hB : Blk w s [.bool false, .int .i64 0, .int .i64 0, .int .i64 0, .slice none 0 0] 60) :
    Calls Try.prog 14 #[.pointer (some ⟨s, 0, none⟩), .int .i64 (t)] w (Ret (fun v w' => v = .slice none 0 0 ∧ Ext w w')) := by
  refine calls_run (n := 24) Try.func14 rfl rfl rfl ?_
  refine Run.seq ?_
  refine Run.region ?_
  refine RL.val (x_assignSl rfl) ?_
  refine RL.nil ?_
  refine Run.seq ?_
  refine Run.seq ?_
  refine Run.region ?_
  refine RL.val (x_moveP rfl) ?_
  refine RL.st rfl <| St1.call (vals := [.pointer (some ⟨s, 0, none⟩)]) en49 rfl (thereZero _  _ hB) ?_
  rintro _ w_1 ⟨rfl, K_2⟩
  replace hB := hB.ext K_2
  have K0 := (K_2 : Ext w _)
  refine RL.val (x_not rfl) ?_
  refine RL.nil ?_
  refine Run.condT rfl ?_
  refine Run.seq ?_
  refine Run.region ?_
  refine RL.val (x_assignSl rfl) ?_
  refine RL.nil ?_
  refine Run.ret1 (v := .slice (none) (0) (0)) Try.func14 rfl rfl ?_
  exact ⟨_, rfl, rfl, K0⟩

set_option maxRecDepth 100000 in
set_option maxHeartbeats 4000000 in
theorem tick_ (s : Nat) (al : Option Addr) (cl : Nat) (self now req : Int) (ts : List (TrS Item)) (t : Int) (w : World) (hD : SndO w s al cl self now req ts) (hL : ts.length ≤ 1000) (ht : t ≤ 9223372036854775807) (hr : 0 ≤ req ∧ req ≤ 1000000) :
    Calls Try.prog 14 #[.pointer (some ⟨s, 0, none⟩), .int .i64 (t)] w (Ret (fun v w' => ∃ a' c' ts', v = .slice a' (tickP self (max now t) req (ts.map TrS.p)).T.length c' ∧ OwnSl w' 46 a' c' (tickP self (max now t) req (ts.map TrS.p)).T ∧ (∀ q, own a' q → w.heap.size ≤ q) ∧ SndO w' s al cl self (max now t) (tickP self (max now t) req (ts.map TrS.p)).r ts' ∧ ts'.map TrS.p = (tickP self (max now t) req (ts.map TrS.p)).L ∧ (∀ q, sndS s al ts' q → sndS s al ts q) ∧ Keeps (sndS s al ts) w w')) := by
  obtain ⟨hB, ho, hT, hos, htss, hto, hok⟩ := hD
  have hlp := ptr_len ts
  have hs0 := hok.self0
  have hn0 := hok.now0
  refine calls_run (n := 24) Try.func14 rfl rfl rfl ?_
  refine Run.seq ?_
  refine Run.region ?_
  refine RL.val (x_assignSl rfl) ?_
  refine RL.nil ?_
  refine Run.seq ?_
  refine Run.seq ?_
  refine Run.region ?_
  refine RL.val (x_moveP rfl) ?_
  refine RL.st rfl <| St1.call (vals := [.pointer (some ⟨s, 0, none⟩)]) en49 rfl (there_ s al cl self now req ts _ (⟨hB, ho, hT, hos, htss, hto, hok⟩ : SndO _ s al cl self now req ts) hL) ?_
  rintro _ _ ⟨rfl, rfl⟩
  refine RL.val (x_not rfl) ?_
  refine RL.nil ?_
  refine Run.condF rfl ?_
  refine Run.skip ?_
  refine Run.seq ?_
  refine Run.region ?_
  refine RL.val (x_moveP rfl) ?_
  refine RL.val (x_moveP rfl) ?_
  refine RL.val (x_nilCheck rfl) ?_
  refine RL.val (x_fld (o' := 2) Try.underlying60 rfl ty3 rfl rfl rfl) ?_
  refine RL.val (x_ld (v := .int .i64 (now)) ty3 rfl rfl (hB.cl.field (i := 2) rfl)) ?_
  refine RL.val (x_moveI rfl) ?_
  refine RL.val (x_maxI rfl rfl) ?_
  refine RL.val (x_nilCheck rfl) ?_
  refine RL.val (x_fld (o' := 2) Try.underlying60 rfl ty3 rfl rfl rfl) ?_
  refine RL.st rfl <| St1.store (v := .int .i64 (max now t)) ty3 rfl rfl rfl (by simp [Value.cells, Value.oneCell']) hB (by simp) ?_
  intro w_1 hB_ K_2
  have hB' : Blk w_1 s [.bool (true), .int .i64 (self), .int .i64 (max now t), .int .i64 (req), .slice (al) ((ts.map TrS.ptr).length) (cl)] 60 := hB_
  clear hB_
  replace ho := ho.keepO K_2 (fun q_ hq_ eq_ => hos (by simp only [one] at eq_; rw [← eq_]; exact hq_))
  replace hT := hT.keepO K_2 (fun q_ hq_ eq_ => htss (by simp only [one] at eq_; rw [← eq_]; exact hq_))
  have K0 := (Keeps.refl (sndS s al ts) w).trans K_2 (fun x _ hx => by simp only [one] at hx; subst hx; exact (Or.inl rfl))
  replace hB := hB'
  clear hB'
  refine RL.nil ?_
  refine Run.seq ?_
  refine Run.region ?_
  refine RL.val (x_moveP rfl) ?_
  refine RL.val (x_nilCheck rfl) ?_
  refine RL.val (x_fld (o' := 4) Try.underlying60 rfl ty58 rfl rfl rfl) ?_
  refine RL.val (x_ld (v := .slice (al) ((ts.map TrS.ptr).length) (cl)) ty58 rfl rfl (hB.cl.field (i := 4) rfl)) ?_
  refine RL.val (x_moveP rfl) ?_
  refine RL.val (x_mkIface (v := .pointer (some ⟨s, 0, none⟩)) Try.underlying24 rfl) ?_
  have hE : EachAt w_1 s al (ts.map TrS.ptr).length cl self (max now t) req ts ts := ⟨hB, TrsM.of hT, htss⟩
  have pr_3 : ∀ q_, eachS s ts q_ → ¬ own al q_ := fun q_ x_ z_ => (each_case _ x_).elim (fun e_ => hos (show own al s from e_ ▸ z_)) (fun y_ => (fun y_ => hto q_ y_ z_) y_)
  have pg_4 : ∀ q_, eachS s ts q_ → q_ < w.heap.size → (sndS s al ts) q_ := fun q_ x_ hl_ => (each_case _ x_).elim (fun e_ => e_ ▸ (Or.inl rfl)) (fun y_ => (fun y_ => (fun q_ h_ _ => Or.inr (Or.inr h_)) q_ y_ hl_) y_)
  refine RL.st rfl <| St1.call (vals := [.slice (al) ((ts.map TrS.ptr).length) (cl), .iface 24 (.pointer (some ⟨s, 0, none⟩))]) en50 rfl (each_ s al (ts.map TrS.ptr).length cl self (max now t) req ts al cl _ hE ho.sl (each_dis hos hto) (hok.mono (by omega) (by omega)) hL hr) ?_
  rintro _ w_7 ⟨a_5, c_6, us, rfl, ho_8, hg_9, hE_10, hup, K_11⟩
  have pr_12 : ∀ q_, own a_5 q_ → ¬ own al q_ := apartNew hg_9 ho.own_lt
  have pr_13 : ∀ q_, own a_5 q_ → ¬ eachS s ts q_ := apartNew hg_9 hE.own_lt
  have pg_14 : ∀ q_, own a_5 q_ → q_ < w.heap.size → (sndS s al ts) q_ := fun q_ h hlt => absurd (Nat.le_trans K0.size (hg_9 q_ h)) (by omega)
  have pw_15 : ∀ q_, own a_5 q_ → w.heap.size ≤ q_ := fun q_ h => Nat.le_trans K0.size (hg_9 q_ h)
  clear hg_9
  replace ho := ho.keepO K_11 (fun q_ h1 h2 => pr_3 q_ h2 h1)
  replace K0 := K0.trans K_11 (fun x hlt hx => pg_4 x hx hlt)
  replace hE := hE_10
  clear hE_10
  refine RL.val (x_assignSl rfl) ?_
  refine RL.nil ?_
  refine Run.ret1 (v := .slice (a_5) (((tickP self (max now t) req (ts.map TrS.p)).T).length) (c_6)) Try.func14 rfl rfl ?_
  have hok2 : SOk self (max now t) (us.map TrS.p) := by rw [hup]; exact (hok.mono (by omega) (by omega)).tick
  exact ⟨_, rfl, a_5, c_6, us, rfl, ho_8, pw_15, snd_of hE ho hos htss hto hok2, hup, fun q h => h.elim .inl (fun h => .inr (h.elim .inl (fun h => .inr ((hE.trs.same q).1 h)))), K0⟩

set_option maxRecDepth 100000 in
set_option maxHeartbeats 4000000 in
theorem onNil  (m : HMsg) (t : Int) (w : World) :
    Calls Try.prog 15 #[.pointer none, .agg #[.int .i64 ((m).kind), .int .i64 ((m).frm), .int .i64 ((m).to), .int .i64 ((m).req), .string ((m).key), .slice (none) (0) (0), .slice (none) (0) (0), .slice (none) (0) (0), .int .i64 (0), .int .i64 ((m).part), .int .i64 (0), .int .i64 (0), .int .i64 (0), .int .i64 (0), .slice (none) (0) (0), .slice (none) (0) (0), .slice (none) (0) (0)], .int .i64 (t)] w (Ret (fun v w' => v = .slice none 0 0 ∧ Ext w w')) := by
  refine calls_run (n := 66) Try.func15 rfl rfl rfl ?_
  refine Run.seq ?_
  refine Run.region ?_
  refine RL.st rfl <| St1.box (v := .agg #[.int .i64 ((m).kind), .int .i64 ((m).frm), .int .i64 ((m).to), .int .i64 ((m).req), .string ((m).key), .slice (none) (0) (0), .slice (none) (0) (0), .slice (none) (0) (0), .int .i64 (0), .int .i64 ((m).part), .int .i64 (0), .int .i64 (0), .int .i64 (0), .int .i64 (0), .slice (none) (0) (0), .slice (none) (0) (0), .slice (none) (0) (0)]) rfl ?_
  intro b_1 w_2 hl_5 hb_4 K_3
  replace hb_4 : Blk w_2 b_1 [.int .i64 ((m).kind), .int .i64 ((m).frm), .int .i64 ((m).to), .int .i64 ((m).req), .string ((m).key), .slice (none) (0) (0), .slice (none) (0) (0), .slice (none) (0) (0), .int .i64 (0), .int .i64 ((m).part), .int .i64 (0), .int .i64 (0), .int .i64 (0), .int .i64 (0), .slice (none) (0) (0), .slice (none) (0) (0), .slice (none) (0) (0)] 46 := hb_4
  have : w.heap.size ≤ b_1 := hl_5
  clear hl_5
  have K0 := (K_3 : Ext w _)
  refine RL.val (x_assignSl rfl) ?_
  refine RL.nil ?_
  refine Run.seq ?_
  refine Run.seq ?_
  refine Run.region ?_
  refine RL.val (x_moveP rfl) ?_
  refine RL.st rfl <| St1.call (vals := [.pointer none]) en49 rfl (thereNil  _) ?_
  rintro _ w_6 ⟨rfl, K_7⟩
  replace hb_4 := hb_4.ext K_7
  replace K0 := K0.ext K_7
  refine RL.val (x_not rfl) ?_
  refine RL.nil ?_
  refine Run.condT rfl ?_
  refine Run.seq ?_
  refine Run.region ?_
  refine RL.val (x_assignSl rfl) ?_
  refine RL.nil ?_
  refine Run.ret1 (v := .slice (none) (0) (0)) Try.func15 rfl rfl ?_
  exact ⟨_, rfl, rfl, K0⟩

set_option maxRecDepth 100000 in
set_option maxHeartbeats 4000000 in
theorem onZero (s : Nat) (m : HMsg) (t : Int) (w : World) (hB : Blk w s [.bool false, .int .i64 0, .int .i64 0, .int .i64 0, .slice none 0 0] 60) :
    Calls Try.prog 15 #[.pointer (some ⟨s, 0, none⟩), .agg #[.int .i64 ((m).kind), .int .i64 ((m).frm), .int .i64 ((m).to), .int .i64 ((m).req), .string ((m).key), .slice (none) (0) (0), .slice (none) (0) (0), .slice (none) (0) (0), .int .i64 (0), .int .i64 ((m).part), .int .i64 (0), .int .i64 (0), .int .i64 (0), .int .i64 (0), .slice (none) (0) (0), .slice (none) (0) (0), .slice (none) (0) (0)], .int .i64 (t)] w (Ret (fun v w' => v = .slice none 0 0 ∧ Ext w w')) := by
  refine calls_run (n := 66) Try.func15 rfl rfl rfl ?_
  refine Run.seq ?_
  refine Run.region ?_
  refine RL.st rfl <| St1.box (v := .agg #[.int .i64 ((m).kind), .int .i64 ((m).frm), .int .i64 ((m).to), .int .i64 ((m).req), .string ((m).key), .slice (none) (0) (0), .slice (none) (0) (0), .slice (none) (0) (0), .int .i64 (0), .int .i64 ((m).part), .int .i64 (0), .int .i64 (0), .int .i64 (0), .int .i64 (0), .slice (none) (0) (0), .slice (none) (0) (0), .slice (none) (0) (0)]) rfl ?_
  intro b_1 w_2 hl_5 hb_4 K_3
  replace hb_4 : Blk w_2 b_1 [.int .i64 ((m).kind), .int .i64 ((m).frm), .int .i64 ((m).to), .int .i64 ((m).req), .string ((m).key), .slice (none) (0) (0), .slice (none) (0) (0), .slice (none) (0) (0), .int .i64 (0), .int .i64 ((m).part), .int .i64 (0), .int .i64 (0), .int .i64 (0), .int .i64 (0), .slice (none) (0) (0), .slice (none) (0) (0), .slice (none) (0) (0)] 46 := hb_4
  have ne_6 : s < b_1 := Nat.lt_of_lt_of_le hB.lt hl_5
  have : w.heap.size ≤ b_1 := hl_5
  clear hl_5
  replace hB := hB.ext K_3
  have K0 := (K_3 : Ext w _)
  refine RL.val (x_assignSl rfl) ?_
  refine RL.nil ?_
  refine Run.seq ?_
  refine Run.seq ?_
  refine Run.region ?_
  refine RL.val (x_moveP rfl) ?_
  refine RL.st rfl <| St1.call (vals := [.pointer (some ⟨s, 0, none⟩)]) en49 rfl (thereZero _  _ hB) ?_
  rintro _ w_7 ⟨rfl, K_8⟩
  replace hB := hB.ext K_8
  replace hb_4 := hb_4.ext K_8
  replace K0 := K0.ext K_8
  refine RL.val (x_not rfl) ?_
  refine RL.nil ?_
  refine Run.condT rfl ?_
  refine Run.seq ?_
  refine Run.region ?_
  refine RL.val (x_assignSl rfl) ?_
  refine RL.nil ?_
  refine Run.ret1 (v := .slice (none) (0) (0)) Try.func15 rfl rfl ?_
  exact ⟨_, rfl, rfl, K0⟩

set_option maxRecDepth 100000 in
set_option maxHeartbeats 4000000 in
theorem new_ (self : Int) (w : World) :
    Calls Try.prog 10 #[.int .i64 (self)] w (Ret (fun v w' => (¬ (0 ≤ self ∧ self < 8) ∧ v = .tuple #[.pointer none, .int .i64 1] ∧ Ext w w') ∨ ((0 ≤ self ∧ self < 8) ∧ ∃ s, v = .tuple #[.pointer (some ⟨s, 0, none⟩), .int .i64 0] ∧ SndO w' s none 0 self 0 0 [] ∧ (∀ q, sndS s none ([] : List (TrS Item)) q → w.heap.size ≤ q) ∧ Ext w w'))) := by
  refine calls_run (n := 13) Try.func10 rfl rfl rfl ?_
  refine Run.seq ?_
  refine Run.region ?_
  refine RL.val (x_assignP rfl) ?_
  refine RL.val (x_assignI rfl) ?_
  refine RL.nil ?_
  refine Run.seq ?_
  refine Run.seq ?_
  refine Run.region ?_
  refine RL.val (x_moveI rfl) ?_
  refine RL.val (x_ltI rfl rfl) ?_
  refine RL.val (x_moveB rfl) ?_
  refine RL.gval (wantedF rfl rfl rfl rfl) (fun hg => (x_moveI rfl)) ?_
  refine RL.gval (wantedF rfl rfl rfl rfl) (fun hg => (x_geI (gvr hg) rfl)) ?_
  refine RL.val (x_or rfl rfl rfl) ?_
  refine RL.nil ?_
  refine Run.cond rfl (fun hc9 => ?_) (fun hc9 => ?_)
  · try simp only [br] at hc9
    refine Run.seq ?_
    refine Run.region ?_
    refine RL.val (x_assignP rfl) ?_
    refine RL.val (x_assignI rfl) ?_
    refine RL.nil ?_
    refine Run.ret2 (v := .pointer none) (x := .int .i64 (1)) Try.func10 rfl rfl rfl ?_
    exact ⟨_, rfl, .inl ⟨by omega, rfl, Keeps.refl _ w⟩⟩
  · try simp only [br] at hc9
    refine Run.skip ?_
    refine Run.seq ?_
    refine Run.region ?_
    refine RL.val (x_moveI rfl) ?_
    refine RL.val (x_build (cells := #[.bool (true), .int .i64 (self), .int .i64 (0), .int .i64 (0), .slice (none) (0) (0)]) (by kernel_rfl)) ?_
    refine RL.st rfl <| St1.box (v := .agg #[.bool (true), .int .i64 (self), .int .i64 (0), .int .i64 (0), .slice (none) (0) (0)]) rfl ?_
    intro b_1 w_2 hl_5 hb_4 K_3
    replace hb_4 : Blk w_2 b_1 [.bool (true), .int .i64 (self), .int .i64 (0), .int .i64 (0), .slice (none) (0) (0)] 60 := hb_4
    have : w.heap.size ≤ b_1 := hl_5
    clear hl_5
    have K0 := (K_3 : Ext w _)
    refine RL.val (x_assignP rfl) ?_
    refine RL.val (x_assignI rfl) ?_
    refine RL.nil ?_
    refine Run.ret2 (v := .pointer (some ⟨b_1, 0, none⟩)) (x := .int .i64 (0)) Try.func10 rfl rfl rfl ?_
    exact ⟨_, rfl, .inr ⟨by omega, b_1, rfl, ⟨hb_4, OwnSl.nil _ _, TrsAt.nil _ _ _, own_none _, fun ⟨_, h, _⟩ => absurd h (by simp), fun _ ⟨_, h, _⟩ => absurd h (by simp), ⟨by omega, by omega, fun _ h => absurd h (by simp)⟩⟩, fun q h => h.elim (fun e => by rw [e]; omega) (fun h => h.elim (fun h => absurd h (own_none q)) (fun ⟨_, h, _⟩ => absurd h (by simp))), K0⟩⟩

end Go.Proofs.Ythhhkjmlnjbnjaa
