/-
  Layer 18's walks, fourth part.
-/
import Derived.Test.YthhhkjmlnjbnjaaRows
import Derived.Test.YthhhkjmlnjbnjaaOd
namespace Go.Proofs.Ythhhkjmlnjbnjaa
attribute [local irreducible] St1 RL RA RT RT1 Run

section
variable {s n cl : Nat} {al : Option Addr} {self now req : Int} {ts us : List (TrS Item)} {w : World}
theorem each_case : ∀ q, eachS s ts q → q = s ∨ trsS ts q := fun _ h => h
theorem each_dis (hos : ¬ own al s) (hto : ∀ q, trsS ts q → ¬ own al q) : ∀ x, al = some x → ¬ eachS s ts x.block := fun x hx h => h.elim (fun e => hos (e ▸ own_sub _ x hx)) (fun h => hto _ h (own_sub _ x hx))
theorem snd_of (hE : EachAt w s al (ts.map TrS.ptr).length cl self now req ts us) (ho : OwnSl w 90 al cl (ts.map TrS.ptr)) (hos : ¬ own al s) (htss : ¬ trsS ts s) (hto : ∀ q, trsS ts q → ¬ own al q) (hok : SOk self now (us.map TrS.p)) :
    SndO w s al cl self now req us := by
  obtain ⟨hB, ⟨hA, hs, hp⟩, hap⟩ := hE
  rw [← hp] at hB ho
  exact ⟨hB, ho, hA, hos, fun h => htss ((hs _).1 h), fun q h => hto q ((hs q).1 h), hok⟩
variable {l1 l2 : List (TrS Item)} {t : TrS Item} {k : Nat} {nl : List Item} {m : HMsg} {r : Int}
theorem each_one {b : Nat} {p o : Int} {a : Option Addr} {c : Nat} : ∀ q, eachS s [(⟨b, p, o, a, c, nl⟩ : TrS Item)] q → q = s ∨ (q = b ∨ own a q) := fun q h => h.imp id fun ⟨x, hx, hq⟩ => by
  simp only [List.mem_singleton] at hx; subst hx; exact hq
theorem sok_one {p o : Int} {b : Nat} {a : Option Addr} {c : Nat} (h : SOk self now (ts.map TrS.p)) (h1 : LOk now nl) (h2 : nl.length ≤ 4294967295) : SOk self now ([(⟨b, p, o, a, c, nl⟩ : TrS Item)].map TrS.p) :=
  ⟨h.self0, h.now0, fun x hx => by simp only [List.map_cons, List.map_nil, List.mem_singleton] at hx; subst hx; exact ⟨h1, h2⟩⟩
theorem set_mid {α : Type} {l1 l2 : List α} {x y : α} {l : List α} (e : l = l1 ++ x :: l2) (h : l1.length = k) : l.set k y = l1 ++ y :: l2 := by
  subst e; subst h; rw [List.set_append_right _ _ (Nat.le_refl _), Nat.sub_self, List.set_cons_zero]
theorem each_at1 (hB : Blk w s [.bool true, .int .i64 self, .int .i64 now, .int .i64 req, .slice al n cl] 60) (hbt : Blk w t.blk [.int .i64 t.part, .int .i64 t.to, .slice t.a nl.length t.cap] 89) (hot : OwnSl w 97 t.a t.cap nl) (hoa : ¬ own t.a t.blk) (hs : ¬ trS t s) :
    EachAt w s al n cl self now req [⟨t.blk, t.part, t.to, t.a, t.cap, nl⟩] [⟨t.blk, t.part, t.to, t.a, t.cap, nl⟩] :=
  ⟨hB, TrsM.of (TrsAt.close (l1 := []) (l2 := []) ⟨hbt, hot, hoa⟩ (TrsAt.nil _ _ _) (fun _ ⟨_, h, _⟩ => absurd h (by simp))), fun h => hs ((each_one (s := s) s (.inr h)).elim (fun _ => by
    obtain ⟨x, hx, hq⟩ := h
    simp only [List.mem_singleton] at hx; subst hx; exact hq) (fun h => h))⟩
theorem on_end (hE : EachAt w s al (ts.map TrS.ptr).length cl self now r [⟨t.blk, t.part, t.to, t.a, t.cap, nl⟩] us) (hup : us.map TrS.p = [⟨t.part, t.to, (tellP now req nl).L⟩]) (hR : TrsAt 89 97 w (l1 ++ l2)) (hRt : ∀ q, trsS (l1 ++ l2) q → ¬ trS t q)
    (ho : OwnSl w 90 al cl (ts.map TrS.ptr)) (hts : ts = l1 ++ t :: l2) (hos : ¬ own al s) (htss : ¬ trsS ts s) (hto : ∀ q, trsS ts q → ¬ own al q) (hok : SOk self now (ts.map TrS.p)) (h1 : LOk now nl) (h2 : nl.length ≤ 4294967295) :
    ∃ ts', SndO w s al cl self now r ts' ∧ ts'.map TrS.p = l1.map TrS.p ++ ⟨t.part, t.to, (tellP now req nl).L⟩ :: l2.map TrS.p ∧ ∀ q, sndS s al ts' q → sndS s al ts q := by
  obtain ⟨hB, ⟨hA, hs, hp⟩, hap⟩ := hE
  obtain ⟨u, rfl⟩ : ∃ u, us = [u] := by
    cases us with
    | nil => simp at hup
    | cons u l => cases l with
      | nil => exact ⟨u, rfl⟩
      | cons y l => simp at hup
  have hup' : u.p = ⟨t.part, t.to, (tellP now req nl).L⟩ := by simpa using hup
  have hptr : u.ptr = t.ptr := by
    have : [u.ptr] = [some (⟨t.blk, 0, none⟩ : Addr)] := hp
    exact (List.cons.inj this).1
  have hut : ∀ q, trS u q ↔ trS t q := fun q => by
    constructor
    · intro h
      obtain ⟨x, hx, hq⟩ := (hs q).1 ⟨u, by simp, h⟩
      simp only [List.mem_singleton] at hx; subst hx; exact hq
    · intro h
      obtain ⟨x, hx, hq⟩ := (hs q).2 ⟨_, List.mem_singleton.2 rfl, h⟩
      simp only [List.mem_singleton] at hx; subst hx; exact hq
  have hall : ∀ q, trsS (l1 ++ u :: l2) q ↔ trsS ts q := fun q => by rw [hts, trsS_mid, trsS_mid, hut]
  have e : ts.map TrS.ptr = (l1 ++ u :: l2).map TrS.ptr := by rw [hts]; simp [hptr]
  rw [e] at hB ho
  refine ⟨l1 ++ u :: l2, ⟨hB, ho, TrsAt.close (hA.all u (by simp)) hR (fun q h h2 => hRt q h ((hut q).1 h2)), hos, fun h => htss ((hall _).1 h), fun q h => hto q ((hall q).1 h), ?_⟩, ?_, fun q h => h.imp id (fun h => h.imp id (fun h => (hall q).1 h))⟩
  · refine ⟨hok.self0, hok.now0, fun x hx => ?_⟩
    rw [List.map_append, List.map_cons, hup'] at hx
    rcases List.mem_append.1 hx with hx | hx
    · exact hok.all x (by rw [hts, List.map_append]; exact List.mem_append.2 (.inl hx))
    · rcases List.mem_cons.1 hx with rfl | hx
      · exact ⟨h1.tell hok.now0.1, by show (tellP _ _ _).L.length ≤ _; rw [tellP_L]; exact h2⟩
      · exact hok.all x (by rw [hts, List.map_append]; exact List.mem_append.2 (.inr (List.mem_cons_of_mem _ hx)))
  · rw [List.map_append, List.map_cons, hup']
theorem on_kind (h : ¬ m.kind = 11) {pl : List (PTr Item)} : onP self now req pl m = ⟨req, pl, []⟩ := if_neg h
theorem on_none {pl : List (PTr Item)} (h : pl.findIdx? (sameT m.part m.frm) = none) : onP self now req pl m = ⟨req, pl, []⟩ := by unfold onP; rw [h]; exact ite_self _
theorem on_key (hx : (ts.map TrS.p).findIdx? (sameT m.part m.frm) = some k) (ht : ts[k]? = some t) (h : t.left.findIdx? (ackI m.key m.req) = none) : onP self now req (ts.map TrS.p) m = ⟨req, ts.map TrS.p, []⟩ := by
  unfold onP; rw [hx]; simp only [p_get ht]; rw [show t.p.left = t.left from rfl, h]; exact ite_self _
theorem on_in {j : Nat} (hm : m.kind = 11) (hx : (ts.map TrS.p).findIdx? (sameT m.part m.frm) = some k) (ht : ts[k]? = some t) (e : ts = l1 ++ t :: l2) (hl1 : l1.length = k) (h : t.left.findIdx? (ackI m.key m.req) = some j) :
    onP self now req (ts.map TrS.p) m = ⟨(tellP now req (delI t.left j)).r, l1.map TrS.p ++ ⟨t.part, t.to, (tellP now req (delI t.left j)).L⟩ :: l2.map TrS.p, (tellP now req (delI t.left j)).T.map (msgH self t.to t.part)⟩ := by
  unfold onP; rw [if_pos hm, hx]; simp only [p_get ht]; rw [show t.p.left = t.left from rfl, h]
  simp only
  rw [set_mid (l1 := l1.map TrS.p) (x := t.p) (l2 := l2.map TrS.p) (by rw [e, List.map_append, List.map_cons]) (by rw [List.length_map, hl1])]
  rfl
theorem onP_cond (h : ¬ m.kind = 11 ∨ findI (sameT m.part m.frm) (ts.map TrS.p) < 0) : onP self now req (ts.map TrS.p) m = ⟨req, ts.map TrS.p, []⟩ := by
  rcases h with h | h
  · exact on_kind h
  · exact on_none (tr_no h).2.2
end

theorem en50 : Enters Try.prog 50 := enters_of Try.func50 rfl (by kernel_rfl)
theorem en51 : Enters Try.prog 51 := enters_of Try.func51 rfl (by kernel_rfl)
theorem en52 : Enters Try.prog 52 := enters_of Try.func52 rfl (by kernel_rfl)
theorem en53 : Enters Try.prog 53 := enters_of Try.func53 rfl (by kernel_rfl)

set_option maxRecDepth 100000 in
set_option maxHeartbeats 4000000 in
theorem tickNil  (tm : Int) (w : World) :
    Calls Try.prog 14 #[.pointer none, .int .i64 (tm)] w (Ret (fun v w' => v = .slice none 0 0 ∧ Ext w w')) := by
  refine calls_run (n := 24) Try.func14 rfl rfl rfl ?_
  refine Run.seq ?_
  refine Run.region ?_
  refine RL.val (x_assignSl rfl) ?_
  refine RL.nil ?_
  refine Run.seq ?_
  refine Run.seq ?_
  refine Run.region ?_
  refine RL.val (x_moveP rfl) ?_
  refine RL.st rfl <| St1.call (vals := [.pointer none]) en49 rfl (thereNil  _) ?_
  rintro _ w_1 ⟨rfl, K_2⟩
  have K0 := (K_2 : Ext w _)
  refine RL.val (x_not rfl) ?_
  refine RL.nil ?_
  refine Run.condT rfl ?_
  refine Run.seq ?_
  refine Run.region ?_
  refine RL.val (x_assignSl rfl) ?_
  refine RL.nil ?_
  refine Run.ret1 (v := .slice (none) (0) (0)) Try.func14 rfl rfl ?_
  exact ⟨_, rfl, rfl, K0⟩

set_option maxRecDepth 100000 in
set_option maxHeartbeats 4000000 in
theorem tickZero (s : Nat) (tm : Int) (w : World) (hB : Blk w s [.bool false, .int .i64 0, .int .i64 0, .int .i64 0, .slice none 0 0] 60) :
    Calls Try.prog 14 #[.pointer (some ⟨s, 0, none⟩), .int .i64 (tm)] w (Ret (fun v w' => v = .slice none 0 0 ∧ Ext w w')) := by
  refine calls_run (n := 24) Try.func14 rfl rfl rfl ?_
  refine Run.seq ?_
  refine Run.region ?_
  refine RL.val (x_assignSl rfl) ?_
  refine RL.nil ?_
  refine Run.seq ?_
  refine Run.seq ?_
  refine Run.region ?_
  refine RL.val (x_moveP rfl) ?_
  refine RL.st rfl <| St1.call (vals := [.pointer (some ⟨s, 0, none⟩)]) en49 rfl (thereZero _  _ hB) ?_
  rintro _ w_1 ⟨rfl, K_2⟩
  replace hB := hB.ext K_2
  have K0 := (K_2 : Ext w _)
  refine RL.val (x_not rfl) ?_
  refine RL.nil ?_
  refine Run.condT rfl ?_
  refine Run.seq ?_
  refine Run.region ?_
  refine RL.val (x_assignSl rfl) ?_
  refine RL.nil ?_
  refine Run.ret1 (v := .slice (none) (0) (0)) Try.func14 rfl rfl ?_
  exact ⟨_, rfl, rfl, K0⟩

set_option maxRecDepth 100000 in
set_option maxHeartbeats 4000000 in
theorem tick_ (s : Nat) (al : Option Addr) (cl : Nat) (self now req : Int) (ts : List (TrS Item)) (tm : Int) (w : World) (hD : SndO w s al cl self now req ts) (hL : ts.length ≤ 1000) (ht : tm ≤ 9223372036854775807) (hr : 0 ≤ req ∧ req ≤ 1000000) :
    Calls Try.prog 14 #[.pointer (some ⟨s, 0, none⟩), .int .i64 (tm)] w (Ret (fun v w' => ∃ a' c' ts', v = .slice a' (tickP self (max now tm) req (ts.map TrS.p)).T.length c' ∧ OwnSl w' 46 a' c' (tickP self (max now tm) req (ts.map TrS.p)).T ∧ (∀ q, own a' q → w.heap.size ≤ q) ∧ SndO w' s al cl self (max now tm) (tickP self (max now tm) req (ts.map TrS.p)).r ts' ∧ ts'.map TrS.p = (tickP self (max now tm) req (ts.map TrS.p)).L ∧ (∀ q, sndS s al ts' q → sndS s al ts q) ∧ Keeps (sndS s al ts) w w')) := by
  obtain ⟨hB, ho, hT, hos, htss, hto, hok⟩ := hD
  have hlp := ptr_len ts
  have hs0 := hok.self0
  have hn0 := hok.now0
  refine calls_run (n := 24) Try.func14 rfl rfl rfl ?_
  refine Run.seq ?_
  refine Run.region ?_
  refine RL.val (x_assignSl rfl) ?_
  refine RL.nil ?_
  refine Run.seq ?_
  refine Run.seq ?_
  refine Run.region ?_
  refine RL.val (x_moveP rfl) ?_
  refine RL.st rfl <| St1.call (vals := [.pointer (some ⟨s, 0, none⟩)]) en49 rfl (there_ s al cl self now req ts _ (⟨hB, ho, hT, hos, htss, hto, hok⟩ : SndO _ s al cl self now req ts) hL) ?_
  rintro _ _ ⟨rfl, rfl⟩
  refine RL.val (x_not rfl) ?_
  refine RL.nil ?_
  refine Run.condF rfl ?_
  refine Run.skip ?_
  refine Run.seq ?_
  refine Run.region ?_
  refine RL.val (x_moveP rfl) ?_
  refine RL.val (x_moveP rfl) ?_
  refine RL.val (x_nilCheck rfl) ?_
  refine RL.val (x_fld (o' := 2) Try.underlying60 rfl ty3 rfl rfl rfl) ?_
  refine RL.val (x_ld (v := .int .i64 (now)) ty3 rfl rfl (hB.cl.field (i := 2) rfl)) ?_
  refine RL.val (x_moveI rfl) ?_
  refine RL.val (x_maxI rfl rfl) ?_
  refine RL.val (x_nilCheck rfl) ?_
  refine RL.val (x_fld (o' := 2) Try.underlying60 rfl ty3 rfl rfl rfl) ?_
  refine RL.st rfl <| St1.store (v := .int .i64 (max now tm)) ty3 rfl rfl rfl (by simp [Value.cells, Value.oneCell']) hB (by simp) ?_
  intro w_1 hB_ K_2
  have hB' : Blk w_1 s [.bool (true), .int .i64 (self), .int .i64 (max now tm), .int .i64 (req), .slice (al) ((ts.map TrS.ptr).length) (cl)] 60 := hB_
  clear hB_
  replace ho := ho.keepO K_2 (fun q_ hq_ eq_ => hos (by simp only [one] at eq_; rw [← eq_]; exact hq_))
  replace hT := hT.keepO K_2 (fun q_ hq_ eq_ => htss (by simp only [one] at eq_; rw [← eq_]; exact hq_))
  have K0 := (Keeps.refl (sndS s al ts) w).trans K_2 (fun x _ hx => by simp only [one] at hx; subst hx; exact (Or.inl rfl))
  replace hB := hB'
  clear hB'
  refine RL.nil ?_
  refine Run.seq ?_
  refine Run.region ?_
  refine RL.val (x_moveP rfl) ?_
  refine RL.val (x_nilCheck rfl) ?_
  refine RL.val (x_fld (o' := 4) Try.underlying60 rfl ty58 rfl rfl rfl) ?_
  refine RL.val (x_ld (v := .slice (al) ((ts.map TrS.ptr).length) (cl)) ty58 rfl rfl (hB.cl.field (i := 4) rfl)) ?_
  refine RL.val (x_moveP rfl) ?_
  refine RL.val (x_mkIface (v := .pointer (some ⟨s, 0, none⟩)) Try.underlying24 rfl) ?_
  have hE : EachAt w_1 s al (ts.map TrS.ptr).length cl self (max now tm) req ts ts := ⟨hB, TrsM.of hT, htss⟩
  have pr_3 : ∀ q_, eachS s ts q_ → ¬ own al q_ := fun q_ x_ z_ => (each_case _ x_).elim (fun e_ => hos (show own al s from e_ ▸ z_)) (fun y_ => (fun y_ => hto q_ y_ z_) y_)
  have pg_4 : ∀ q_, eachS s ts q_ → q_ < w.heap.size → (sndS s al ts) q_ := fun q_ x_ hl_ => (each_case _ x_).elim (fun e_ => e_ ▸ (Or.inl rfl)) (fun y_ => (fun y_ => (fun q_ h_ _ => Or.inr (Or.inr h_)) q_ y_ hl_) y_)
  refine RL.st rfl <| St1.call (vals := [.slice (al) ((ts.map TrS.ptr).length) (cl), .iface 24 (.pointer (some ⟨s, 0, none⟩))]) en50 rfl (each_ s al (ts.map TrS.ptr).length cl self (max now tm) req ts al cl _ hE ho.sl (each_dis hos hto) (hok.mono (by omega) (by omega)) hL hr) ?_
  rintro _ w_7 ⟨a_5, c_6, us, rfl, ho_8, hg_9, hE_10, hup, K_11⟩
  have pr_12 : ∀ q_, own a_5 q_ → ¬ own al q_ := apartNew hg_9 ho.own_lt
  have pr_13 : ∀ q_, own a_5 q_ → ¬ eachS s ts q_ := apartNew hg_9 hE.own_lt
  have pg_14 : ∀ q_, own a_5 q_ → q_ < w.heap.size → (sndS s al ts) q_ := fun q_ h hlt => absurd (Nat.le_trans K0.size (hg_9 q_ h)) (by omega)
  have pw_15 : ∀ q_, own a_5 q_ → w.heap.size ≤ q_ := fun q_ h => Nat.le_trans K0.size (hg_9 q_ h)
  clear hg_9
  replace ho := ho.keepO K_11 (fun q_ h1 h2 => pr_3 q_ h2 h1)
  replace K0 := K0.trans K_11 (fun x hlt hx => pg_4 x hx hlt)
  replace hE := hE_10
  clear hE_10
  refine RL.val (x_assignSl rfl) ?_
  refine RL.nil ?_
  refine Run.ret1 (v := .slice (a_5) (((tickP self (max now tm) req (ts.map TrS.p)).T).length) (c_6)) Try.func14 rfl rfl ?_
  have hok2 : SOk self (max now tm) (us.map TrS.p) := by rw [hup]; exact (hok.mono (by omega) (by omega)).tick
  exact ⟨_, rfl, a_5, c_6, us, rfl, ho_8, pw_15, snd_of hE ho hos htss hto hok2, hup, fun q h => h.elim .inl (fun h => .inr (h.elim .inl (fun h => .inr ((hE.trs.same q).1 h)))), K0⟩

set_option maxRecDepth 100000 in
set_option maxHeartbeats 4000000 in
theorem on1_ (b : Nat) (m : HMsg) (x : Item) (w : World) (hb : Blk w b [.int .i64 ((m).kind), .int .i64 ((m).frm), .int .i64 ((m).to), .int .i64 ((m).req), .string ((m).key), .slice (none) (0) (0), .slice (none) (0) (0), .slice (none) (0) (0), .int .i64 (0), .int .i64 ((m).part), .int .i64 (0), .int .i64 (0), .int .i64 (0), .int .i64 (0), .slice (none) (0) (0), .slice (none) (0) (0), .slice (none) (0) (0)] 46) :
    Calls Try.prog 52 #[.agg #[.string ((x).key), .int .i64 ((x).req), .int .i64 ((x).since)], .pointer (some ⟨b, 0, none⟩)] w (Ret (fun v w' => v = .bool (ackI m.key m.req x) ∧ Ext w w')) := by
  refine calls_run (n := 21) Try.func52 rfl rfl rfl ?_
  refine Run.seq ?_
  refine Run.region ?_
  refine RL.st rfl <| St1.box (v := .agg #[.string ((x).key), .int .i64 ((x).req), .int .i64 ((x).since)]) rfl ?_
  intro b_1 w_2 hl_5 hb_4 K_3
  replace hb_4 : Blk w_2 b_1 [.string ((x).key), .int .i64 ((x).req), .int .i64 ((x).since)] 97 := hb_4
  have ne_6 : b < b_1 := Nat.lt_of_lt_of_le hb.lt hl_5
  have : w.heap.size ≤ b_1 := hl_5
  clear hl_5
  replace hb := hb.ext K_3
  have K0 := (K_3 : Ext w _)
  refine RL.val (x_assignB rfl) ?_
  refine RL.nil ?_
  refine Run.seq ?_
  refine Run.region ?_
  refine RL.val (x_fld (o' := 0) Try.underlying97 rfl ty9 rfl rfl rfl) ?_
  refine RL.val (x_ld (v := .string ((x).key)) ty9 rfl rfl (hb_4.cl.field (i := 0) rfl)) ?_
  refine RL.val (x_fld (o' := 4) Try.underlying46 rfl ty9 rfl rfl rfl) ?_
  refine RL.val (x_ld (v := .string ((m).key)) ty9 rfl rfl (hb.cl.field (i := 4) rfl)) ?_
  refine RL.val (x_eqS rfl rfl) ?_
  refine RL.val (x_moveB rfl) ?_
  refine RL.gval (wantedT rfl rfl rfl rfl) (fun hg => (x_fld (o' := 2) Try.underlying97 rfl ty3 rfl rfl rfl)) ?_
  refine RL.gval (wantedT rfl rfl rfl rfl) (fun hg => (x_ld (v := .int .i64 ((x).since)) ty3 (gvr hg) rfl (hb_4.cl.field (i := 2) rfl))) ?_
  refine RL.gval (wantedT rfl rfl rfl rfl) (fun hg => (x_geI (gvr hg) rfl)) ?_
  refine RL.val (x_and rfl rfl rfl) ?_
  refine RL.val (x_moveB rfl) ?_
  refine RL.gval (wantedT rfl rfl rfl rfl) (fun hg => (x_fld (o' := 1) Try.underlying97 rfl ty3 rfl rfl rfl)) ?_
  refine RL.gval (wantedT rfl rfl rfl rfl) (fun hg => (x_ld (v := .int .i64 ((x).req)) ty3 (gvr hg) rfl (hb_4.cl.field (i := 1) rfl))) ?_
  refine RL.gval (wantedT rfl rfl rfl rfl) (fun hg => (x_fld (o' := 3) Try.underlying46 rfl ty3 rfl rfl rfl)) ?_
  refine RL.gval (wantedT rfl rfl rfl rfl) (fun hg => (x_ld (v := .int .i64 ((m).req)) ty3 (gvr hg) rfl (hb.cl.field (i := 3) rfl))) ?_
  refine RL.gval (wantedT rfl rfl rfl rfl) (fun hg => (x_eqI (gvr hg) (gvr hg))) ?_
  refine RL.val (x_and rfl rfl rfl) ?_
  refine RL.val (x_assignB rfl) ?_
  refine RL.nil ?_
  refine Run.ret1 (v := .bool (((decide ((x).key = (m).key)) && (decide (0 ≤ ((x).since)))) && (((x).req) == ((m).req)))) Try.func52 rfl rfl ?_
  exact ⟨_, rfl, rfl, K0⟩

set_option maxRecDepth 100000 in
set_option maxHeartbeats 4000000 in
theorem on_ (s : Nat) (al : Option Addr) (cl : Nat) (self now req : Int) (ts : List (TrS Item)) (m : HMsg) (tm : Int) (w : World) (hD : SndO w s al cl self now req ts) (hL : ts.length ≤ 1000) (ht : tm ≤ 9223372036854775807) (hr : 0 ≤ req ∧ req ≤ 1000000) :
    Calls Try.prog 15 #[.pointer (some ⟨s, 0, none⟩), .agg #[.int .i64 ((m).kind), .int .i64 ((m).frm), .int .i64 ((m).to), .int .i64 ((m).req), .string ((m).key), .slice (none) (0) (0), .slice (none) (0) (0), .slice (none) (0) (0), .int .i64 (0), .int .i64 ((m).part), .int .i64 (0), .int .i64 (0), .int .i64 (0), .int .i64 (0), .slice (none) (0) (0), .slice (none) (0) (0), .slice (none) (0) (0)], .int .i64 (tm)] w (Ret (fun v w' => ∃ a' c' ts', v = .slice a' (onP self (max now tm) req (ts.map TrS.p) m).T.length c' ∧ OwnSl w' 46 a' c' (onP self (max now tm) req (ts.map TrS.p) m).T ∧ (∀ q, own a' q → w.heap.size ≤ q) ∧ SndO w' s al cl self (max now tm) (onP self (max now tm) req (ts.map TrS.p) m).r ts' ∧ ts'.map TrS.p = (onP self (max now tm) req (ts.map TrS.p) m).L ∧ (∀ q, sndS s al ts' q → sndS s al ts q) ∧ Keeps (sndS s al ts) w w')) := by
  obtain ⟨hB, ho, hT, hos, htss, hto, hok⟩ := hD
  have hlp := ptr_len ts
  have hs0 := hok.self0
  have hn0 := hok.now0
  refine calls_run (n := 66) Try.func15 rfl rfl rfl ?_
  refine Run.seq ?_
  refine Run.region ?_
  refine RL.st rfl <| St1.box (v := .agg #[.int .i64 ((m).kind), .int .i64 ((m).frm), .int .i64 ((m).to), .int .i64 ((m).req), .string ((m).key), .slice (none) (0) (0), .slice (none) (0) (0), .slice (none) (0) (0), .int .i64 (0), .int .i64 ((m).part), .int .i64 (0), .int .i64 (0), .int .i64 (0), .int .i64 (0), .slice (none) (0) (0), .slice (none) (0) (0), .slice (none) (0) (0)]) rfl ?_
  intro b_1 w_2 hl_5 hb_4 K_3
  replace hb_4 : Blk w_2 b_1 [.int .i64 ((m).kind), .int .i64 ((m).frm), .int .i64 ((m).to), .int .i64 ((m).req), .string ((m).key), .slice (none) (0) (0), .slice (none) (0) (0), .slice (none) (0) (0), .int .i64 (0), .int .i64 ((m).part), .int .i64 (0), .int .i64 (0), .int .i64 (0), .int .i64 (0), .slice (none) (0) (0), .slice (none) (0) (0), .slice (none) (0) (0)] 46 := hb_4
  have ne_6 : s < b_1 := Nat.lt_of_lt_of_le hB.lt hl_5
  have pr_7 : ¬ own al b_1 := fun h => absurd (ho.own_lt _ h) (by omega)
  have pr_8 : ¬ trsS ts b_1 := fun h => absurd (hT.own_lt _ h) (by omega)
  have : w.heap.size ≤ b_1 := hl_5
  clear hl_5
  replace hB := hB.ext K_3
  replace ho := ho.ext K_3
  replace hT := hT.ext K_3
  have K0 := (K_3 : Ext w _).to (S := (sndS s al ts))
  refine RL.val (x_assignSl rfl) ?_
  refine RL.nil ?_
  refine Run.seq ?_
  refine Run.seq ?_
  refine Run.region ?_
  refine RL.val (x_moveP rfl) ?_
  refine RL.st rfl <| St1.call (vals := [.pointer (some ⟨s, 0, none⟩)]) en49 rfl (there_ s al cl self now req ts _ (⟨hB, ho, hT, hos, htss, hto, hok⟩ : SndO _ s al cl self now req ts) hL) ?_
  rintro _ _ ⟨rfl, rfl⟩
  refine RL.val (x_not rfl) ?_
  refine RL.nil ?_
  refine Run.condF rfl ?_
  refine Run.skip ?_
  refine Run.seq ?_
  refine Run.region ?_
  refine RL.val (x_moveP rfl) ?_
  refine RL.val (x_moveP rfl) ?_
  refine RL.val (x_nilCheck rfl) ?_
  refine RL.val (x_fld (o' := 2) Try.underlying60 rfl ty3 rfl rfl rfl) ?_
  refine RL.val (x_ld (v := .int .i64 (now)) ty3 rfl rfl (hB.cl.field (i := 2) rfl)) ?_
  refine RL.val (x_moveI rfl) ?_
  refine RL.val (x_maxI rfl rfl) ?_
  refine RL.val (x_nilCheck rfl) ?_
  refine RL.val (x_fld (o' := 2) Try.underlying60 rfl ty3 rfl rfl rfl) ?_
  refine RL.st rfl <| St1.store (v := .int .i64 (max now tm)) ty3 rfl rfl rfl (by simp [Value.cells, Value.oneCell']) hB (by simp) ?_
  intro w_9 hB_ K_10
  have hB' : Blk w_9 s [.bool (true), .int .i64 (self), .int .i64 (max now tm), .int .i64 (req), .slice (al) ((ts.map TrS.ptr).length) (cl)] 60 := hB_
  clear hB_
  replace ho := ho.keepO K_10 (fun q_ hq_ eq_ => hos (by simp only [one] at eq_; rw [← eq_]; exact hq_))
  replace hT := hT.keepO K_10 (fun q_ hq_ eq_ => htss (by simp only [one] at eq_; rw [← eq_]; exact hq_))
  replace hb_4 := hb_4.keep K_10 (by simp only [one]; omega)
  replace K0 := K0.trans K_10 (fun x _ hx => by simp only [one] at hx; subst hx; exact (Or.inl rfl))
  replace hB := hB'
  clear hB'
  refine RL.nil ?_
  refine Run.seq ?_
  refine Run.region ?_
  refine RL.val (x_moveP rfl) ?_
  refine RL.val (x_fld (o' := 9) Try.underlying46 rfl ty3 rfl rfl rfl) ?_
  refine RL.val (x_ld (v := .int .i64 ((m).part)) ty3 rfl rfl (hb_4.cl.field (i := 9) rfl)) ?_
  refine RL.val (x_fld (o' := 1) Try.underlying46 rfl ty3 rfl rfl rfl) ?_
  refine RL.val (x_ld (v := .int .i64 ((m).frm)) ty3 rfl rfl (hb_4.cl.field (i := 1) rfl)) ?_
  refine RL.st rfl <| St1.call (vals := [.pointer (some ⟨s, 0, none⟩), .int .i64 ((m).part), .int .i64 ((m).frm)]) en45 rfl (find_ s al cl self (max now tm) req ts ((m).part) ((m).frm) _ (⟨hB, ho, hT, hos, htss, hto, hok.mono (by omega) (by omega)⟩ : SndO _ s al cl self (max now tm) req ts) hL) ?_
  rintro _ w_11 ⟨rfl, K_12⟩
  replace hB := hB.ext K_12
  replace ho := ho.ext K_12
  replace hT := hT.ext K_12
  replace hb_4 := hb_4.ext K_12
  replace K0 := K0.ext K_12
  refine RL.val (x_assignI rfl) ?_
  refine RL.nil ?_
  refine Run.seq ?_
  refine Run.seq ?_
  refine Run.region ?_
  refine RL.val (x_fld (o' := 0) Try.underlying46 rfl ty3 rfl rfl rfl) ?_
  refine RL.val (x_ld (v := .int .i64 ((m).kind)) ty3 rfl rfl (hb_4.cl.field (i := 0) rfl)) ?_
  refine RL.val (x_neI rfl rfl) ?_
  refine RL.val (x_moveB rfl) ?_
  refine RL.gval (wantedF rfl rfl rfl rfl) (fun hg => (x_moveI rfl)) ?_
  refine RL.gval (wantedF rfl rfl rfl rfl) (fun hg => (x_ltI (gvr hg) rfl)) ?_
  refine RL.val (x_or rfl rfl rfl) ?_
  refine RL.nil ?_
  refine Run.cond rfl (fun hc34 => ?_) (fun hc34 => ?_)
  · try simp only [br] at hc34
    refine Run.seq ?_
    refine Run.region ?_
    refine RL.val (x_assignSl rfl) ?_
    refine RL.nil ?_
    refine Run.ret1 (v := .slice (none) (0) (0)) Try.func15 rfl rfl ?_
    have e := onP_cond (self := self) (now := (max now tm)) (req := req) (ts := ts) (m := m) hc34
    rw [e]
    exact ⟨_, rfl, none, 0, ts, rfl, OwnSl.nil _ _, fun q h => absurd h (own_none q), ⟨hB, ho, hT, hos, htss, hto, hok.mono (by omega) (by omega)⟩, rfl, fun _ h => h, K0⟩
  · try simp only [br] at hc34
    obtain ⟨k, t, l1, l2, hk, hkl, hts, hl1, hti, hpt, hst, hfs, hfx⟩ := tr_yes (ts := ts) (part := m.part) (to := m.frm) (by omega)
    rw [hk]
    obtain ⟨ht_, hR, hRt⟩ := hT.openE hts
    obtain ⟨hbt, hot, hoa⟩ := ht_
    have hLt := hok.at (mem_tr hts)
    have ne_13 : t.blk ≠ s := fun e_ => htss (by rw [← e_]; exact (trs_subB hts))
    have pr_14 : ¬ own al t.blk := fun h_ => hto _ (trs_subB hts) h_
    have ne_15 : t.blk ≠ b_1 := fun e_ => pr_8 (by rw [← e_]; exact (trs_subB hts))
    have if_16 : t.blk < w.heap.size → (sndS s al ts) t.blk := fun hl_ => (fun q_ h_ _ => Or.inr (Or.inr h_)) _ (trs_subB hts) hl_
    have pr_17 : ¬ own t.a s := fun h_ => htss ((trs_subO hts) _ h_)
    have pr_18 : ∀ q_, own t.a q_ → ¬ own al q_ := fun q_ h_ => hto q_ ((trs_subO hts) q_ h_)
    have pr_19 : ¬ own t.a b_1 := fun h_ => pr_8 ((trs_subO hts) _ h_)
    have pr_20 : ¬ trsS (l1 ++ l2) s := fun h_ => htss ((trs_subR hts) _ h_)
    have pr_21 : ∀ q_, trsS (l1 ++ l2) q_ → ¬ own al q_ := fun q_ h_ => hto q_ ((trs_subR hts) q_ h_)
    have pr_22 : ¬ trsS (l1 ++ l2) b_1 := fun h_ => pr_8 ((trs_subR hts) _ h_)
    clear hT
    refine Run.skip ?_
    refine Run.seq ?_
    refine Run.region ?_
    refine RL.val (x_moveP rfl) ?_
    refine RL.val (x_nilCheck rfl) ?_
    refine RL.val (x_fld (o' := 4) Try.underlying60 rfl ty58 rfl rfl rfl) ?_
    refine RL.val (x_ld (v := .slice (al) ((ts.map TrS.ptr).length) (cl)) ty58 rfl rfl (hB.cl.field (i := 4) rfl)) ?_
    refine RL.val (x_moveI rfl) ?_
    obtain ⟨b_23, o_24, x_27, hx_28, ha_25, hc_26⟩ := ho.sl.el (i := k) (by first | omega | (simp only [List.length_set]; omega))
    obtain rfl : (some (⟨t.blk, 0, none⟩ : Addr)) = x_27 := Option.some.inj (hpt.symm.trans hx_28)
    refine RL.val (x_idxN Try.underlying58 ty90 rfl rfl ha_25 (by first | omega | (simp only [List.length_set]; omega))) ?_
    refine RL.val (x_ldV (v := .pointer (some ⟨t.blk, 0, none⟩)) (y := (some (⟨t.blk, 0, none⟩ : Addr))) ty90 rfl hc_26 rfl) ?_
    refine RL.val (x_assignP rfl) ?_
    refine RL.nil ?_
    refine Run.seq ?_
    refine Run.region ?_
    refine RL.val (x_moveP rfl) ?_
    refine RL.val (x_nilCheck rfl) ?_
    refine RL.val (x_fld (o' := 2) Try.underlying89 rfl ty87 rfl rfl rfl) ?_
    refine RL.val (x_ld (v := .slice (t.a) (t.left.length) (t.cap)) ty87 rfl rfl (hbt.cl.field (i := 2) rfl)) ?_
    refine RL.val (x_mkFunc (a := []) (c := [.pointer (some ⟨b_1, 0, none⟩)]) rfl rfl) ?_
    refine RL.st rfl <| St1.call (vals := [.slice (t.a) (t.left.length) (t.cap), .func (.func 52) #[] #[.pointer (some ⟨b_1, 0, none⟩)]]) en51 rfl (indexFunc_item _ _ _ 52 _ (ackI m.key m.req) en52 _ hot.sl (by omega) (fun x _ w' K' => on1_ _ m x w' (hb_4.ext K'))) ?_
    rintro _ w_29 ⟨rfl, K_30⟩
    replace hB := hB.ext K_30
    replace ho := ho.ext K_30
    replace hb_4 := hb_4.ext K_30
    replace hbt := hbt.ext K_30
    replace hot := hot.ext K_30
    replace hR := hR.ext K_30
    replace K0 := K0.ext K_30
    refine RL.val (x_assignI rfl) ?_
    refine RL.nil ?_
    refine Run.seq ?_
    refine Run.seq ?_
    refine Run.region ?_
    refine RL.val (x_moveI rfl) ?_
    refine RL.val (x_ltI rfl rfl) ?_
    refine RL.nil ?_
    refine Run.cond rfl (fun hc49 => ?_) (fun hc49 => ?_)
    · try simp only [br] at hc49
      refine Run.seq ?_
      refine Run.region ?_
      refine RL.val (x_assignSl rfl) ?_
      refine RL.nil ?_
      refine Run.ret1 (v := .slice (none) (0) (0)) Try.func15 rfl rfl ?_
      have hjn := findI_none (p := ackI m.key m.req) (xs := t.left) rfl hc49
      have e := on_key (self := self) (now := (max now tm)) (req := req) hfx hti (findIdx_none hjn (Nat.le_refl _))
      rw [e]
      have hT' : TrsAt 89 97 w_29 (l1 ++ t :: l2) := TrsAt.close ⟨hbt, hot, hoa⟩ hR hRt
      rw [← hts] at hT'
      exact ⟨_, rfl, none, 0, ts, rfl, OwnSl.nil _ _, fun q h => absurd h (own_none q), ⟨hB, ho, hT', hos, htss, hto, hok.mono (by omega) (by omega)⟩, rfl, fun _ h => h, K0⟩
    · try simp only [br] at hc49
      obtain ⟨j, hj, hjl, hjp, hjn⟩ := findI_some (p := ackI m.key m.req) (xs := t.left) rfl (by omega)
      obtain ⟨y, hy⟩ : ∃ y, t.left[j]? = some y := ⟨_, List.getElem?_eq_getElem hjl⟩
      have hjx := findIdx_some hy (hjp y hy) hjn
      rw [hj]
      have hdln := delI_len t.left j
      refine Run.skip ?_
      refine Run.seq ?_
      refine Run.region ?_
      refine RL.val (x_moveP rfl) ?_
      refine RL.val (x_moveP rfl) ?_
      refine RL.val (x_nilCheck rfl) ?_
      refine RL.val (x_fld (o' := 2) Try.underlying89 rfl ty87 rfl rfl rfl) ?_
      refine RL.val (x_ld (v := .slice (t.a) (t.left.length) (t.cap)) ty87 rfl rfl (hbt.cl.field (i := 2) rfl)) ?_
      refine RL.val (x_moveI rfl) ?_
      refine RL.val (x_moveI rfl) ?_
      refine RL.val (litI (c := ((j + 1 : Nat) : Int)) (x_add rfl rfl (by omega) (by omega)) rfl) ?_
      refine RL.st rfl <| St1.call (vals := [.slice (t.a) (t.left.length) (t.cap), .int .i64 (((j : Nat) : Int)), .int .i64 (((j + 1 : Nat) : Int))]) en53 rfl (delete_item _ _ _ j _ hot (by omega) (by omega)) ?_
      rintro _ w_31 ⟨rfl, ho_32, K_33⟩
      replace hB := hB.keep K_33 pr_17
      replace ho := ho.keepO K_33 (fun q_ h1 h2 => pr_18 q_ h2 h1)
      replace hb_4 := hb_4.keep K_33 pr_19
      replace hbt := hbt.keep K_33 hoa
      replace hR := hR.keepO K_33 (fun q_ h1 h2 => hRt q_ h1 (Or.inr h2))
      replace K0 := K0.trans K_33 (fun x hlt hx => (fun q_ h_ hl_ => (fun q_ h_ _ => Or.inr (Or.inr h_)) q_ ((trs_subO hts) q_ h_) hl_) x hx hlt)
      replace hot := ho_32
      clear ho_32
      replace hot : OwnSl w_31 97 t.a t.cap (delI t.left j) := hot
      refine RL.val (x_nilCheck rfl) ?_
      refine RL.val (x_fld (o' := 2) Try.underlying89 rfl ty87 rfl rfl rfl) ?_
      refine RL.st rfl <| St1.store (v := .slice (t.a) ((delI t.left j).length) (t.cap)) ty87 rfl rfl rfl (by simp [Value.cells, Value.oneCell']) hbt (by simp) ?_
      intro w_34 hbt_ K_35
      have hbt' : Blk w_34 t.blk [.int .i64 (t.part), .int .i64 (t.to), .slice (t.a) ((delI t.left j).length) (t.cap)] 89 := hbt_
      clear hbt_
      replace hB := hB.keep K_35 (by simp only [one]; omega)
      replace ho := ho.keepO K_35 (fun q_ hq_ eq_ => pr_14 (by simp only [one] at eq_; rw [← eq_]; exact hq_))
      replace hb_4 := hb_4.keep K_35 (by simp only [one]; omega)
      replace hot := hot.keepO K_35 (fun q_ hq_ eq_ => hoa (by simp only [one] at eq_; rw [← eq_]; exact hq_))
      replace hR := hR.keepO K_35 (fun q_ hq_ eq_ => (fun h_ => hRt _ h_ (Or.inl rfl)) (by simp only [one] at eq_; rw [← eq_]; exact hq_))
      replace K0 := K0.trans K_35 (fun x hlt hx => by simp only [one] at hx; subst hx; exact if_16 hlt)
      replace hbt := hbt'
      clear hbt'
      refine RL.nil ?_
      refine Run.seq ?_
      refine Run.region ?_
      refine RL.val (x_moveP rfl) ?_
      refine RL.st rfl <| St1.buildSlice ([some (⟨t.blk, 0, none⟩ : Addr)] : List (Option Addr)) Try.underlying58 ty90 rfl rfl (by first | decide | (simp [Enc.size])) ?_
      intro b_36 w_37 hl_40 ho_39 K_38
      have pr_41 : ¬ own (some ⟨b_36, 0, none⟩) s := notNew (ge_new hl_40) hB.lt
      have pr_42 : ∀ q_, own (some ⟨b_36, 0, none⟩) q_ → ¬ own al q_ := apartNew (ge_new hl_40) ho.own_lt
      have pr_43 : ¬ own (some ⟨b_36, 0, none⟩) b_1 := notNew (ge_new hl_40) hb_4.lt
      have pr_44 : ¬ own (some ⟨b_36, 0, none⟩) t.blk := notNew (ge_new hl_40) hbt.lt
      have pr_45 : ∀ q_, own (some ⟨b_36, 0, none⟩) q_ → ¬ own t.a q_ := apartNew (ge_new hl_40) hot.own_lt
      have pr_46 : ∀ q_, own (some ⟨b_36, 0, none⟩) q_ → ¬ trsS (l1 ++ l2) q_ := apartNew (ge_new hl_40) hR.own_lt
      have pg_47 : ∀ q_, own (some ⟨b_36, 0, none⟩) q_ → q_ < w.heap.size → (sndS s al ts) q_ := fun q_ h hlt => absurd (Nat.le_trans K0.size ((ge_new hl_40) q_ h)) (by omega)
      have pw_48 : ∀ q_, own (some ⟨b_36, 0, none⟩) q_ → w.heap.size ≤ q_ := fun q_ h => Nat.le_trans K0.size ((ge_new hl_40) q_ h)
      clear hl_40
      replace hB := hB.ext K_38
      replace ho := ho.ext K_38
      replace hb_4 := hb_4.ext K_38
      replace hbt := hbt.ext K_38
      replace hot := hot.ext K_38
      replace hR := hR.ext K_38
      replace K0 := K0.ext K_38
      refine RL.val (x_moveP rfl) ?_
      refine RL.val (x_mkIface (v := .pointer (some ⟨s, 0, none⟩)) Try.underlying24 rfl) ?_
      have hE : EachAt w_37 s al (ts.map TrS.ptr).length cl self (max now tm) req [(⟨t.blk, t.part, t.to, t.a, t.cap, (delI t.left j)⟩ : TrS Item)] [(⟨t.blk, t.part, t.to, t.a, t.cap, (delI t.left j)⟩ : TrS Item)] := each_at1 (nl := (delI t.left j)) hB hbt hot hoa (fun h => htss (trsS_mid.2 (.inl h) |> fun h => hts ▸ h))
      have pr_49 : ∀ q_, eachS s [(⟨t.blk, t.part, t.to, t.a, t.cap, (delI t.left j)⟩ : TrS Item)] q_ → ¬ own al q_ := fun q_ x_ z_ => (each_one _ x_).elim (fun e_ => hos (show own al s from e_ ▸ z_)) (fun y_ => y_.elim (fun e_ => pr_14 (show own al t.blk from e_ ▸ z_)) (fun y_ => (fun y_ => pr_18 q_ y_ z_) y_))
      have pr_50 : ¬ eachS s [(⟨t.blk, t.part, t.to, t.a, t.cap, (delI t.left j)⟩ : TrS Item)] b_1 := fun x_ => (each_one _ x_).elim (fun e_ => absurd e_ (by omega)) (fun y_ => y_.elim (fun e_ => absurd e_ (by omega)) (fun y_ => pr_19 y_))
      have pr_51 : ∀ q_, eachS s [(⟨t.blk, t.part, t.to, t.a, t.cap, (delI t.left j)⟩ : TrS Item)] q_ → ¬ trsS (l1 ++ l2) q_ := fun q_ x_ z_ => (each_one _ x_).elim (fun e_ => pr_20 (show trsS (l1 ++ l2) s from e_ ▸ z_)) (fun y_ => y_.elim (fun e_ => (fun h_ => hRt _ h_ (Or.inl rfl)) (show trsS (l1 ++ l2) t.blk from e_ ▸ z_)) (fun y_ => (fun y_ => (fun q_ h1 h2 => (fun q_ h1 h2 => hRt q_ h1 (Or.inr h2)) q_ h2 h1) q_ y_ z_) y_))
      have pr_52 : ∀ q_, eachS s [(⟨t.blk, t.part, t.to, t.a, t.cap, (delI t.left j)⟩ : TrS Item)] q_ → ¬ own (some ⟨b_36, 0, none⟩) q_ := fun q_ x_ z_ => (each_one _ x_).elim (fun e_ => pr_41 (show own (some ⟨b_36, 0, none⟩) s from e_ ▸ z_)) (fun y_ => y_.elim (fun e_ => pr_44 (show own (some ⟨b_36, 0, none⟩) t.blk from e_ ▸ z_)) (fun y_ => (fun y_ => (fun q_ h1 h2 => pr_45 q_ h2 h1) q_ y_ z_) y_))
      have pg_53 : ∀ q_, eachS s [(⟨t.blk, t.part, t.to, t.a, t.cap, (delI t.left j)⟩ : TrS Item)] q_ → q_ < w.heap.size → (sndS s al ts) q_ := fun q_ x_ hl_ => (each_one _ x_).elim (fun e_ => e_ ▸ (Or.inl rfl)) (fun y_ => y_.elim (fun e_ => e_ ▸ if_16 (e_ ▸ hl_)) (fun y_ => (fun y_ => (fun q_ h_ hl_ => (fun q_ h_ _ => Or.inr (Or.inr h_)) q_ ((trs_subO hts) q_ h_) hl_) q_ y_ hl_) y_))
      refine RL.st rfl <| St1.call (vals := [.slice (some ⟨b_36, 0, none⟩) (([some (⟨t.blk, 0, none⟩ : Addr)] : List (Option Addr)).length) (([some (⟨t.blk, 0, none⟩ : Addr)] : List (Option Addr)).length), .iface 24 (.pointer (some ⟨s, 0, none⟩))]) en50 rfl (each_ s al (ts.map TrS.ptr).length cl self (max now tm) req [(⟨t.blk, t.part, t.to, t.a, t.cap, (delI t.left j)⟩ : TrS Item)] (some ⟨b_36, 0, none⟩) (([some (⟨t.blk, 0, none⟩ : Addr)] : List (Option Addr)).length) _ hE ho_39.sl (fun x hx h => (fun q_ h1 h2 => pr_52 q_ h2 h1) x.block (own_sub _ x hx) h) (sok_one (hok.mono (by omega) (by omega)) ((hLt.1.mono (by omega)).del j) (by omega)) (by show 1 ≤ 1000; omega) hr) ?_
      rintro _ w_56 ⟨a_54, c_55, us, rfl, ho_57, hg_58, hE_59, hup, K_60⟩
      have pr_61 : ∀ q_, own a_54 q_ → ¬ own al q_ := apartNew hg_58 ho.own_lt
      have pr_62 : ¬ own a_54 b_1 := notNew hg_58 hb_4.lt
      have pr_63 : ∀ q_, own a_54 q_ → ¬ trsS (l1 ++ l2) q_ := apartNew hg_58 hR.own_lt
      have pr_64 : ∀ q_, own a_54 q_ → ¬ own (some ⟨b_36, 0, none⟩) q_ := apartNew hg_58 ho_39.own_lt
      have pr_65 : ∀ q_, own a_54 q_ → ¬ eachS s [(⟨t.blk, t.part, t.to, t.a, t.cap, (delI t.left j)⟩ : TrS Item)] q_ := apartNew hg_58 hE.own_lt
      have pg_66 : ∀ q_, own a_54 q_ → q_ < w.heap.size → (sndS s al ts) q_ := fun q_ h hlt => absurd (Nat.le_trans K0.size (hg_58 q_ h)) (by omega)
      have pw_67 : ∀ q_, own a_54 q_ → w.heap.size ≤ q_ := fun q_ h => Nat.le_trans K0.size (hg_58 q_ h)
      clear hg_58
      replace ho := ho.keepO K_60 (fun q_ h1 h2 => pr_49 q_ h2 h1)
      replace hb_4 := hb_4.keep K_60 pr_50
      replace hR := hR.keepO K_60 (fun q_ h1 h2 => pr_51 q_ h2 h1)
      replace ho_39 := ho_39.keepO K_60 (fun q_ h1 h2 => pr_52 q_ h2 h1)
      replace K0 := K0.trans K_60 (fun x hlt hx => pg_53 x hx hlt)
      replace hE := hE_59
      clear hE_59
      refine RL.val (x_assignSl rfl) ?_
      refine RL.nil ?_
      refine Run.ret1 (v := .slice (a_54) (((tickP self (max now tm) req ([(⟨t.blk, t.part, t.to, t.a, t.cap, (delI t.left j)⟩ : TrS Item)].map TrS.p)).T).length) (c_55)) Try.func15 rfl rfl ?_
      have e := on_in (self := self) (now := (max now tm)) (req := req) (by omega) hfx hti hts hl1 hjx
      rw [e]
      obtain ⟨ts', h1, h2, h3⟩ := on_end (req := req) hE hup hR hRt ho hts hos htss hto (hok.mono (by omega) (by omega)) ((hLt.1.mono (by omega)).del j) (by omega)
      exact ⟨_, rfl, a_54, c_55, ts', rfl, ho_57, pw_67, h1, h2, h3, K0⟩

set_option maxRecDepth 100000 in
set_option maxHeartbeats 4000000 in
theorem onNil  (m : HMsg) (tm : Int) (w : World) :
    Calls Try.prog 15 #[.pointer none, .agg #[.int .i64 ((m).kind), .int .i64 ((m).frm), .int .i64 ((m).to), .int .i64 ((m).req), .string ((m).key), .slice (none) (0) (0), .slice (none) (0) (0), .slice (none) (0) (0), .int .i64 (0), .int .i64 ((m).part), .int .i64 (0), .int .i64 (0), .int .i64 (0), .int .i64 (0), .slice (none) (0) (0), .slice (none) (0) (0), .slice (none) (0) (0)], .int .i64 (tm)] w (Ret (fun v w' => v = .slice none 0 0 ∧ Ext w w')) := by
  refine calls_run (n := 66) Try.func15 rfl rfl rfl ?_
  refine Run.seq ?_
  refine Run.region ?_
  refine RL.st rfl <| St1.box (v := .agg #[.int .i64 ((m).kind), .int .i64 ((m).frm), .int .i64 ((m).to), .int .i64 ((m).req), .string ((m).key), .slice (none) (0) (0), .slice (none) (0) (0), .slice (none) (0) (0), .int .i64 (0), .int .i64 ((m).part), .int .i64 (0), .int .i64 (0), .int .i64 (0), .int .i64 (0), .slice (none) (0) (0), .slice (none) (0) (0), .slice (none) (0) (0)]) rfl ?_
  intro b_1 w_2 hl_5 hb_4 K_3
  replace hb_4 : Blk w_2 b_1 [.int .i64 ((m).kind), .int .i64 ((m).frm), .int .i64 ((m).to), .int .i64 ((m).req), .string ((m).key), .slice (none) (0) (0), .slice (none) (0) (0), .slice (none) (0) (0), .int .i64 (0), .int .i64 ((m).part), .int .i64 (0), .int .i64 (0), .int .i64 (0), .int .i64 (0), .slice (none) (0) (0), .slice (none) (0) (0), .slice (none) (0) (0)] 46 := hb_4
  have : w.heap.size ≤ b_1 := hl_5
  clear hl_5
  have K0 := (K_3 : Ext w _)
  refine RL.val (x_assignSl rfl) ?_
  refine RL.nil ?_
  refine Run.seq ?_
  refine Run.seq ?_
  refine Run.region ?_
  refine RL.val (x_moveP rfl) ?_
  refine RL.st rfl <| St1.call (vals := [.pointer none]) en49 rfl (thereNil  _) ?_
  rintro _ w_6 ⟨rfl, K_7⟩
  replace hb_4 := hb_4.ext K_7
  replace K0 := K0.ext K_7
  refine RL.val (x_not rfl) ?_
  refine RL.nil ?_
  refine Run.condT rfl ?_
  refine Run.seq ?_
  refine Run.region ?_
  refine RL.val (x_assignSl rfl) ?_
  refine RL.nil ?_
  refine Run.ret1 (v := .slice (none) (0) (0)) Try.func15 rfl rfl ?_
  exact ⟨_, rfl, rfl, K0⟩

set_option maxRecDepth 100000 in
set_option maxHeartbeats 4000000 in
theorem onZero (s : Nat) (m : HMsg) (tm : Int) (w : World) (hB : Blk w s [.bool false, .int .i64 0, .int .i64 0, .int .i64 0, .slice none 0 0] 60) :
    Calls Try.prog 15 #[.pointer (some ⟨s, 0, none⟩), .agg #[.int .i64 ((m).kind), .int .i64 ((m).frm), .int .i64 ((m).to), .int .i64 ((m).req), .string ((m).key), .slice (none) (0) (0), .slice (none) (0) (0), .slice (none) (0) (0), .int .i64 (0), .int .i64 ((m).part), .int .i64 (0), .int .i64 (0), .int .i64 (0), .int .i64 (0), .slice (none) (0) (0), .slice (none) (0) (0), .slice (none) (0) (0)], .int .i64 (tm)] w (Ret (fun v w' => v = .slice none 0 0 ∧ Ext w w')) := by
  refine calls_run (n := 66) Try.func15 rfl rfl rfl ?_
  refine Run.seq ?_
  refine Run.region ?_
  refine RL.st rfl <| St1.box (v := .agg #[.int .i64 ((m).kind), .int .i64 ((m).frm), .int .i64 ((m).to), .int .i64 ((m).req), .string ((m).key), .slice (none) (0) (0), .slice (none) (0) (0), .slice (none) (0) (0), .int .i64 (0), .int .i64 ((m).part), .int .i64 (0), .int .i64 (0), .int .i64 (0), .int .i64 (0), .slice (none) (0) (0), .slice (none) (0) (0), .slice (none) (0) (0)]) rfl ?_
  intro b_1 w_2 hl_5 hb_4 K_3
  replace hb_4 : Blk w_2 b_1 [.int .i64 ((m).kind), .int .i64 ((m).frm), .int .i64 ((m).to), .int .i64 ((m).req), .string ((m).key), .slice (none) (0) (0), .slice (none) (0) (0), .slice (none) (0) (0), .int .i64 (0), .int .i64 ((m).part), .int .i64 (0), .int .i64 (0), .int .i64 (0), .int .i64 (0), .slice (none) (0) (0), .slice (none) (0) (0), .slice (none) (0) (0)] 46 := hb_4
  have ne_6 : s < b_1 := Nat.lt_of_lt_of_le hB.lt hl_5
  have : w.heap.size ≤ b_1 := hl_5
  clear hl_5
  replace hB := hB.ext K_3
  have K0 := (K_3 : Ext w _)
  refine RL.val (x_assignSl rfl) ?_
  refine RL.nil ?_
  refine Run.seq ?_
  refine Run.seq ?_
  refine Run.region ?_
  refine RL.val (x_moveP rfl) ?_
  refine RL.st rfl <| St1.call (vals := [.pointer (some ⟨s, 0, none⟩)]) en49 rfl (thereZero _  _ hB) ?_
  rintro _ w_7 ⟨rfl, K_8⟩
  replace hB := hB.ext K_8
  replace hb_4 := hb_4.ext K_8
  replace K0 := K0.ext K_8
  refine RL.val (x_not rfl) ?_
  refine RL.nil ?_
  refine Run.condT rfl ?_
  refine Run.seq ?_
  refine Run.region ?_
  refine RL.val (x_assignSl rfl) ?_
  refine RL.nil ?_
  refine Run.ret1 (v := .slice (none) (0) (0)) Try.func15 rfl rfl ?_
  exact ⟨_, rfl, rfl, K0⟩

set_option maxRecDepth 100000 in
set_option maxHeartbeats 4000000 in
theorem new_ (self : Int) (w : World) :
    Calls Try.prog 10 #[.int .i64 (self)] w (Ret (fun v w' => (¬ (0 ≤ self ∧ self < 8) ∧ v = .tuple #[.pointer none, .int .i64 1] ∧ Ext w w') ∨ ((0 ≤ self ∧ self < 8) ∧ ∃ s, v = .tuple #[.pointer (some ⟨s, 0, none⟩), .int .i64 0] ∧ SndO w' s none 0 self 0 0 [] ∧ (∀ q, sndS s none ([] : List (TrS Item)) q → w.heap.size ≤ q) ∧ Ext w w'))) := by
  refine calls_run (n := 13) Try.func10 rfl rfl rfl ?_
  refine Run.seq ?_
  refine Run.region ?_
  refine RL.val (x_assignP rfl) ?_
  refine RL.val (x_assignI rfl) ?_
  refine RL.nil ?_
  refine Run.seq ?_
  refine Run.seq ?_
  refine Run.region ?_
  refine RL.val (x_moveI rfl) ?_
  refine RL.val (x_ltI rfl rfl) ?_
  refine RL.val (x_moveB rfl) ?_
  refine RL.gval (wantedF rfl rfl rfl rfl) (fun hg => (x_moveI rfl)) ?_
  refine RL.gval (wantedF rfl rfl rfl rfl) (fun hg => (x_geI (gvr hg) rfl)) ?_
  refine RL.val (x_or rfl rfl rfl) ?_
  refine RL.nil ?_
  refine Run.cond rfl (fun hc9 => ?_) (fun hc9 => ?_)
  · try simp only [br] at hc9
    refine Run.seq ?_
    refine Run.region ?_
    refine RL.val (x_assignP rfl) ?_
    refine RL.val (x_assignI rfl) ?_
    refine RL.nil ?_
    refine Run.ret2 (v := .pointer none) (x := .int .i64 (1)) Try.func10 rfl rfl rfl ?_
    exact ⟨_, rfl, .inl ⟨by omega, rfl, Keeps.refl _ w⟩⟩
  · try simp only [br] at hc9
    refine Run.skip ?_
    refine Run.seq ?_
    refine Run.region ?_
    refine RL.val (x_moveI rfl) ?_
    refine RL.val (x_build (cells := #[.bool (true), .int .i64 (self), .int .i64 (0), .int .i64 (0), .slice (none) (0) (0)]) (by kernel_rfl)) ?_
    refine RL.st rfl <| St1.box (v := .agg #[.bool (true), .int .i64 (self), .int .i64 (0), .int .i64 (0), .slice (none) (0) (0)]) rfl ?_
    intro b_1 w_2 hl_5 hb_4 K_3
    replace hb_4 : Blk w_2 b_1 [.bool (true), .int .i64 (self), .int .i64 (0), .int .i64 (0), .slice (none) (0) (0)] 60 := hb_4
    have : w.heap.size ≤ b_1 := hl_5
    clear hl_5
    have K0 := (K_3 : Ext w _)
    refine RL.val (x_assignP rfl) ?_
    refine RL.val (x_assignI rfl) ?_
    refine RL.nil ?_
    refine Run.ret2 (v := .pointer (some ⟨b_1, 0, none⟩)) (x := .int .i64 (0)) Try.func10 rfl rfl rfl ?_
    exact ⟨_, rfl, .inr ⟨by omega, b_1, rfl, ⟨hb_4, OwnSl.nil _ _, TrsAt.nil _ _ _, own_none _, fun ⟨_, h, _⟩ => absurd h (by simp), fun _ ⟨_, h, _⟩ => absurd h (by simp), ⟨by omega, by omega, fun _ h => absurd h (by simp)⟩⟩, fun q h => h.elim (fun e => by rw [e]; omega) (fun h => h.elim (fun h => absurd h (own_none q)) (fun ⟨_, h, _⟩ => absurd h (by simp))), K0⟩⟩

end Go.Proofs.Ythhhkjmlnjbnjaa
