/-
  The reference's disk as a whole; spoil.
-/
import Derived.Test.YtambibdkanpmaaaRows
import Derived.Test.YtambibdkanpmaaaDt
namespace Go.Proofs.Ytambibdkanpmaaa
attribute [local irreducible] St1 RL RA RT RT1 Run

section
variable {w w' : World} {x : Nat} {F : Nat → Prop} {room : Int} {pl : List PF}
def RStep (x : Nat) (F : Nat → Prop) (room : Int) (w : World) (E : Int) (L : List PF) : Value → World → Prop := fun v w' => ∃ F', v = .int .i64 E ∧ RefAt w' x F' room L ∧ MovedS w F F' ∧ Keeps F w w'
theorem rstep_of {al : Option Addr} {rs : List RF} {E E' : Int} {L L' : List PF} {v : Value} (h : ∃ al' cl' rs', v = .int .i64 E ∧ RefO w' x al' cl' room rs' ∧ (rs'.map RF.p).Perm L ∧ (∀ q, refS x al' rs' q → q < w.heap.size → refS x al rs q) ∧ Keeps (refS x al rs) w w') (e : E = E') (p : L.Perm L') :
    RStep x (refS x al rs) room w E' L' v w' := by
  obtain ⟨al', cl', rs', rfl, h1, h2, h3, h4⟩ := h
  subst e
  exact ⟨_, rfl, ⟨al', cl', rs', rfl, h2.trans p, h1⟩, movedS_of h3, h4⟩
theorem appendRA (h : RefAt w x F room pl) (name : ByteArray) (a : Option Addr) (b : List UInt8) (c : Nat) (hs : name.size ≤ 4294967295) (hsl : SlOf w a b) (hdis : ∀ q, a = some q → b ≠ [] → ¬ F q.block) (hbl : b.length ≤ 4294967295) :
    Calls Try.prog 52 #[.pointer (some ⟨x, 0, none⟩), .string name, .slice a b.length c] w (Ret (RStep x F room w (appE room pl name b) (appL room pl name b))) := by
  obtain ⟨al, cl, rs, rfl, hp, hO⟩ := h
  exact ret_mono (appendR x al cl room rs name a b c w hO hs hsl hdis hbl) fun v w' h => rstep_of h (appE_perm hp name b) (appL_perm hp name b)
theorem syncRA (h : RefAt w x F room pl) (name : ByteArray) (hs : name.size ≤ 4294967295) : Calls Try.prog 53 #[.pointer (some ⟨x, 0, none⟩), .string name] w (Ret (RStep x F room w (lookE pl name) (syncL pl name))) := by
  obtain ⟨al, cl, rs, rfl, hp, hO⟩ := h
  exact ret_mono (syncR x al cl room rs name w hO hs) fun v w' h => rstep_of h (lookE_perm hp name) (updL_perm hp name _)
theorem renameRA (h : RefAt w x F room pl) (name to : ByteArray) (hs : name.size ≤ 4294967295) (hs2 : to.size ≤ 4294967295) : Calls Try.prog 54 #[.pointer (some ⟨x, 0, none⟩), .string name, .string to] w (Ret (RStep x F room w (renE pl name to) (renL pl name to))) := by
  obtain ⟨al, cl, rs, rfl, hp, hO⟩ := h
  exact ret_mono (renameR x al cl room rs name to w hO hs hs2) fun v w' h => rstep_of h (renE_perm hp name to) (renL_perm hO.ok.nodup hp name to)
theorem removeRA (h : RefAt w x F room pl) (name : ByteArray) (hs : name.size ≤ 4294967295) : Calls Try.prog 55 #[.pointer (some ⟨x, 0, none⟩), .string name] w (Ret (RStep x F room w (lookE pl name) (remL pl name))) := by
  obtain ⟨al, cl, rs, rfl, hp, hO⟩ := h
  exact ret_mono (removeR x al cl room rs name w hO hs) fun v w' h => rstep_of h (lookE_perm hp name) (remL_perm hp name)
theorem wipeRA (h : RefAt w x F room pl) : Calls Try.prog 57 #[.pointer (some ⟨x, 0, none⟩)] w (Ret fun v w' => v = .tuple #[] ∧ ∃ F', RefAt w' x F' room [] ∧ MovedS w F F' ∧ Keeps F w w') := by
  obtain ⟨al, cl, rs, rfl, hp, hO⟩ := h
  refine ret_mono (wipeR x al cl room rs w hO) fun v w' h => ?_
  obtain ⟨rfl, al', cl', h1, h2, h3⟩ := h
  exact ⟨rfl, _, ⟨al', cl', [], rfl, List.Perm.refl _, h1⟩, movedS_of h2, h3⟩
theorem crashRA (h : RefAt w x F room pl) (a : Option Addr) (ts : List TearC) (c : Nat) (pts : List PTear) (hs : SlOf w a ts) (ht : TearsAt w ts pts) (hdis : ∀ q, a = some q → ts ≠ [] → ¬ F q.block) (hdj : ∀ (i : Nat) (t : TearC) (p : PTear), ts[i]? = some t → pts[i]? = some p → ∀ q : Addr, t.junk.a = some q → p.junk ≠ [] → ¬ F q.block) (hl : ts.length ≤ 4294967295) :
    Calls Try.prog 56 #[.pointer (some ⟨x, 0, none⟩), .slice a ts.length c] w (Ret (RStep x F room w (tornE pl pts []) (crashL pl pts))) := by
  obtain ⟨al, cl, rs, rfl, hp, hO⟩ := h
  exact ret_mono (crashR x al cl room rs a ts c pts w hO hs ht hdis hdj hl) fun v w' h => rstep_of h (tornE_perm hO.ok.nodup hp pts []) (crashL_perm hO.ok.nodup hp pts)
theorem readRA (h : RefAt w x F room pl) (name : ByteArray) (hs : name.size ≤ 4294967295) : Calls Try.prog 58 #[.pointer (some ⟨x, 0, none⟩), .string name] w
    (Ret fun v w' => ∃ a' c', v = .tuple #[.slice a' (readB pl name).length c', .int .i64 (lookE pl name)] ∧ OwnSl w' 5 a' c' (readB pl name) ∧ (∀ b, own a' b → w.heap.size ≤ b) ∧ Ext w w') := by
  obtain ⟨al, cl, rs, rfl, hp, hO⟩ := h
  have := readR x al cl room rs name w hO hs
  have e : readB (rs.map RF.p) name = readB pl name := by rw [readB, readB, lookL_perm hO.ok.nodup hp]
  rwa [e, lookE_perm hp] at this
theorem copyRA (h : RefAt w x F room pl) : Calls Try.prog 35 #[.pointer (some ⟨x, 0, none⟩)] w (Ret fun v w' => ∃ x2 F2, v = .pointer (some ⟨x2, 0, none⟩) ∧ RefAt w' x2 F2 room pl ∧ (∀ q, F2 q → w.heap.size ≤ q) ∧ Ext w w') := by
  obtain ⟨al, cl, rs, rfl, hp, hO⟩ := h
  refine ret_mono (copyR x al cl room rs w hO) fun v w' h => ?_
  obtain ⟨x2, al2, cl2, rs2, rfl, h1, h2, h3, h4⟩ := h
  exact ⟨x2, _, rfl, ⟨al2, cl2, rs2, rfl, by rw [h2]; exact hp, h1⟩, h3, h4⟩
theorem newRA (room : Int) (w : World) : Calls Try.prog 29 #[.int .i64 room] w (Ret fun v w' => (¬ (0 ≤ room ∧ room ≤ 16777216) ∧ v = .tuple #[.pointer none, .int .i64 1] ∧ Ext w w') ∨
    ((0 ≤ room ∧ room ≤ 16777216) ∧ ∃ x F, v = .tuple #[.pointer (some ⟨x, 0, none⟩), .int .i64 0] ∧ RefAt w' x F room [] ∧ (∀ q, F q → w.heap.size ≤ q) ∧ Ext w w')) := by
  refine ret_mono (newR room w) fun v w' h => ?_
  rcases h with h | ⟨h1, x, h2, h3, h4, h5⟩
  · exact .inl h
  · exact .inr ⟨h1, x, _, h2, ⟨none, 0, [], rfl, List.Perm.refl _, h3⟩, h4, h5⟩
theorem SlOf.lt {α : Type} [Enc α] {a : Option Addr} {xs : List α} (h : SlOf w a xs) (hne : xs ≠ []) {q : Addr} (ha : a = some q) : q.block < w.heap.size := by
  rcases h with h | ⟨b, o, h1, h2⟩
  · exact absurd h hne
  · rw [ha] at h1; simp only [Option.some.injEq] at h1; subst h1; exact h2.lt
theorem far {α : Type} [Enc α] {a : Option Addr} {xs : List α} (h : SlOf w a xs) {F : Nat → Prop} (hF : ∀ q, F q → w.heap.size ≤ q) : ∀ q, a = some q → xs ≠ [] → ¬ F q.block := fun q hq hne hf => by have := h.lt hne hq; have := hF _ hf; omega
theorem farj {ts : List TearC} {pts : List PTear} (h : TearsAt w ts pts) {F : Nat → Prop} (hF : ∀ q, F q → w.heap.size ≤ q) : ∀ (i : Nat) (t : TearC) (p : PTear), ts[i]? = some t → pts[i]? = some p → ∀ q : Addr, t.junk.a = some q → p.junk ≠ [] → ¬ F q.block := fun i t p h1 h2 => far (h.all i t p h1 h2).2.2.2 hF
/-- a call of a script, of both -/
def stepX (room : Int) (pl : List PF) (p : DoP) : List PF := if opc p.op = 7 then (if p.bytes.length < 3 then [] else pl) else stepL room pl p
def runX (room : Int) (pl : List PF) (ps : List DoP) : List PF := ps.foldl (stepX room) pl
theorem runX_snoc {room : Int} {pl : List PF} {ps : List DoP} {i : Nat} {p : DoP} (h : ps[i]? = some p) : runX room pl (ps.take (i + 1)) = stepX room (runX room pl (ps.take i)) p := by rw [take_snoc h, runX, List.foldl_append]; rfl
end

theorem own_max {w : World} {T : TypeId} {a : Option Addr} {c : Nat} {xs : List UInt8} (h : OwnSl w T a c xs) : xs.length ≤ 9223372036854775807 := by
  rcases h.cases with ⟨_, _, rfl⟩ | ⟨_, _, _, _, h1, h2, _⟩
  · simp
  · simp only [maxLen] at h2; omega
theorem left_get {cs : List CT} {ls : List LeftS} {j : Nat} {t : TearC} (hl : ls.map (fun x => (x.a, x.cap, x.bytes.length)) = cs.map (fun x => (x.a, x.cap, x.p.junk.length))) (ht : (cs.map CT.t)[j]? = some t) : ∃ x, ls[j]? = some x ∧ t.junk = ⟨x.a, x.bytes.length, x.cap⟩ := by
  rw [List.getElem?_map, Option.map_eq_some_iff] at ht
  obtain ⟨y, hy, rfl⟩ := ht
  have h := congrArg (fun l => l[j]?) hl
  simp only [List.getElem?_map, hy, Option.map_some, Option.map_eq_some_iff] at h
  obtain ⟨x, hx, e⟩ := h
  simp only [Prod.mk.injEq] at e
  exact ⟨x, hx, by rw [CT.t]; simp only; rw [e.1, e.2.1, e.2.2]⟩
theorem left_set {cs : List CT} {ls l1 l2 : List LeftS} {x : LeftS} {ys : List UInt8} (hl : ls.map (fun x => (x.a, x.cap, x.bytes.length)) = cs.map (fun x => (x.a, x.cap, x.p.junk.length))) (e : ls = l1 ++ x :: l2) (hy : ys.length = x.bytes.length) :
    (l1 ++ (⟨x.name, x.a, x.cap, ys⟩ : LeftS) :: l2).map (fun x => (x.a, x.cap, x.bytes.length)) = cs.map (fun x => (x.a, x.cap, x.p.junk.length)) := by rw [← hl, e]; simp [hy]
theorem LeftAt.put {w : World} {x : LeftS} {l1 l2 : List LeftS} (hx : OwnSl w 5 x.a x.cap x.bytes) (h : LeftAt w (l1 ++ l2)) (hn : ∀ q, leftS (l1 ++ l2) q → ¬ own x.a q) : LeftAt w (l1 ++ x :: l2) := by
  have := (h.snoc hx hn)
  exact this.perm ((List.perm_append_singleton x (l1 ++ l2)).trans List.perm_middle.symm)
theorem left_mid {x : LeftS} {l1 l2 : List LeftS} : ∀ q, leftS (l1 ++ x :: l2) q → own x.a q ∨ leftS (l1 ++ l2) q := fun q ⟨y, hy, hq⟩ => by
  simp only [List.mem_append, List.mem_cons] at hy
  rcases hy with hy | rfl | hy
  · exact .inr ⟨y, List.mem_append.2 (.inl hy), hq⟩
  · exact .inl hq
  · exact .inr ⟨y, List.mem_append.2 (.inr hy), hq⟩
theorem left_midN {n : ByteArray} {a : Option Addr} {c : Nat} {b : List UInt8} {l1 l2 : List LeftS} : ∀ q, leftS (l1 ++ (⟨n, a, c, b⟩ : LeftS) :: l2) q → own a q ∨ leftS (l1 ++ l2) q := left_mid
theorem left_same {l1 l2 : List LeftS} {x : LeftS} {ls : List LeftS} {n : ByteArray} {b : List UInt8} (e : ls = l1 ++ x :: l2) : ∀ q, leftS (l1 ++ (⟨n, x.a, x.cap, b⟩ : LeftS) :: l2) q → leftS ls q := fun q h => (left_midN q h).elim (fun h => left_subO e q h) (fun h => left_subR e q h)



set_option maxRecDepth 100000 in
set_option maxHeartbeats 4000000 in
theorem spoil_ (a : Option Addr) (xs : List UInt8) (c : Nat) (at1 : Option Addr) (cs : List CT) (ct : Nat) (w : World) (hob : OwnSl w 5 a c xs) (hs : SlOf w at1 (cs.map CT.t)) (hL : LeftAt w (cs.map CT.l)) (hap : ∀ q, leftS (cs.map CT.l) q → ¬ own a q) (hsd : ∀ x, at1 = some x → cs.map CT.t ≠ [] → ¬ (fun q => own a q ∨ leftS (cs.map CT.l) q) x.block) (hlx : xs.length ≤ 4294967295) (hlc : (cs.map CT.t).length ≤ 4294967295) :
    Calls Try.prog 44 #[.slice (a) (xs.length) (c), .slice (at1) ((cs.map CT.t).length) (ct)] w (Ret (fun v w' => v = .tuple #[] ∧ Keeps (fun q => own a q ∨ leftS (cs.map CT.l) q) w w')) := by
  refine calls_run (n := 41) Try.func44 rfl rfl rfl ?_
  refine Run.seq ?_
  refine Run.seq ?_
  refine Run.region ?_
  refine RL.val (x_moveSl rfl) ?_
  refine RL.val (x_lenSl Try.underlying26 rfl) ?_
  refine RL.val (x_moveI rfl) ?_
  refine RL.nil ?_
  refine Run.block ?_
  refine Run.loop (ι := Nat) (fun i ρ' w' => ∃ ys : List UInt8, Holds ρ' [(0, .slice (a) (xs.length) (c)), (1, .slice (at1) ((cs.map CT.t).length) (ct)), (9, .int .i64 (((xs.length : Nat) : Int))), (10, .int .i64 (((i : Nat) : Int)))] ∧ Keeps (fun q => own a q ∨ leftS (cs.map CT.l) q) w w' ∧ (LeftAt w' (cs.map CT.l)) ∧ (OwnSl w' 5 a c (ys)) ∧ (∀ q_, own a q_ → ¬ leftS (cs.map CT.l) q_) ∧ (∀ q_, own a q_ → q_ < w.heap.size → (fun q => own a q ∨ leftS (cs.map CT.l) q) q_) ∧ (i ≤ xs.length) ∧ (ys.length = xs.length)) (fun i => xs.length - i) 0 ?_ ?_
  · refine ⟨_, ⟨rfl, rfl, rfl, rfl, trivial⟩, (Keeps.refl _ w), hL, hob, (fun q_ h1 h2 => hap q_ h2 h1), (fun q_ h_ _ => Or.inl h_), ?_, ?_⟩
    · omega
    · rfl
  clear hob hL
  rintro i ρ_6 w_1 ⟨ys, hH_2, K0, hL, ho_3, pr_4, pr_5, hi, hys⟩ ih1
  obtain ⟨ρ₀, rfl⟩ := hH_2.ex
  clear hH_2
  refine Run.seq ?_
  refine Run.region ?_
  refine RL.val (x_ltI rfl rfl) ?_
  refine RL.nil ?_
  refine Run.seq ?_
  refine Run.cond rfl (fun hc11 => ?_) (fun hc11 => ?_)
  · try simp only [br] at hc11
    refine Run.skip ?_
    refine Run.seq ?_
    refine Run.block ?_
    refine Run.seq ?_
    refine Run.region ?_
    refine RL.val (x_moveI rfl) ?_
    refine RL.val (x_assignI rfl) ?_
    refine RL.nil ?_
    refine Run.region ?_
    refine RL.val (x_moveSl rfl) ?_
    refine RL.val (x_moveI rfl) ?_
    obtain ⟨b_7, o_8, z, hz, ha_9, hc_10⟩ := ho_3.sl.el (i := i) (by first | omega | (simp only [List.length_set]; omega))
    refine RL.val (x_idxN Try.underlying26 ty5 rfl rfl ha_9 (by first | omega | (simp only [List.length_set]; omega))) ?_
    refine RL.val (x_ldV (v := .int .u8 (((z).toNat : Int))) (y := z) ty5 rfl hc_10 rfl) ?_
    refine RL.val (x_xorB (m := 85) rfl rfl (by decide)) ?_
    obtain ⟨b_13, o_14, x_17, hx_18, ha_15, hc_16⟩ := ho_3.sl.el (i := i) (by first | omega | (simp only [List.length_set]; omega))
    obtain rfl : z = x_17 := Option.some.inj (hz.symm.trans hx_18)
    refine RL.val (x_idxN Try.underlying26 ty5 rfl rfl ha_15 (by first | omega | (simp only [List.length_set]; omega))) ?_
    refine RL.st rfl <| St1.storeEl (v := .int .u8 (((z ^^^ UInt8.ofNat 85).toNat : Int))) (off := 0) (i := i) (z ^^^ UInt8.ofNat 85) ty5 rfl rfl rfl (by simp [Value.cells, Value.oneCell']) ho_3 ha_15 hx_18 rfl (by decide) rfl ?_
    intro w_19 ho_21 K_20
    clear hc_10
    clear hc_16
    replace hL := hL.keepO K_20 (fun q_ h1 h2 => pr_4 q_ h2 h1)
    replace K0 := K0.trans K_20 (fun x hlt hx => pr_5 x hx hlt)
    replace ho_3 := ho_21
    clear ho_21
    refine RL.nil ?_
    refine Run.inBlock ?_
    refine Run.region ?_
    refine RL.val (litI (c := ((i + 1 : Nat) : Int)) (x_add rfl rfl (by omega) (by omega)) rfl) ?_
    refine RL.val (x_moveI rfl) ?_
    refine RL.nil ?_
    refine ih1 (i + 1) _ _ ?_ (by omega)
    refine ⟨_, ⟨rfl, rfl, rfl, rfl, trivial⟩, K0, hL, ho_3, pr_4, pr_5, ?_, ?_⟩
    · omega
    · rw [List.length_set]; exact hys
  · try simp only [br] at hc11
    refine Run.exit rfl ?_
    refine Run.seq ?_
    refine Run.region ?_
    refine RL.val (x_moveSl rfl) ?_
    refine RL.val (x_lenSl Try.underlying32 rfl) ?_
    refine RL.val (x_moveI rfl) ?_
    refine RL.nil ?_
    refine Run.block ?_
    refine Run.loop (ι := Nat) (fun j ρ' w' => ∃ ls : List LeftS, Holds ρ' [(20, .slice (at1) ((cs.map CT.t).length) (ct)), (21, .int .i64 ((((cs.map CT.t).length : Nat) : Int))), (22, .int .i64 (((j : Nat) : Int)))] ∧ Keeps (fun q => own a q ∨ leftS (cs.map CT.l) q) w w' ∧ (OwnSl w' 5 (a) (c) (ys)) ∧ (LeftAt w' ls) ∧ (∀ q_, leftS ls q_ → ¬ own a q_) ∧ (∀ q_, leftS ls q_ → q_ < w.heap.size → (fun q => own a q ∨ leftS (cs.map CT.l) q) q_) ∧ (j ≤ (cs.map CT.t).length) ∧ (ls.map (fun x => (x.a, x.cap, x.bytes.length)) = cs.map (fun x => (x.a, x.cap, x.p.junk.length)))) (fun j => (cs.map CT.t).length - j) 0 ?_ ?_
    · refine ⟨cs.map CT.l, ⟨rfl, rfl, rfl, trivial⟩, K0, ho_3, hL, (fun q_ h1 h2 => pr_4 q_ h2 h1), (fun q_ h_ _ => Or.inr h_), ?_, ?_⟩
      · omega
      · rw [List.map_map]; rfl
    clear hL ho_3
    clear K0
    rintro j ρ_27 w_22 ⟨ls, hH_23, K0, ho_3, hO_24, pr_25, pr_26, hj, hll⟩ ih2
    obtain ⟨ρ₀, rfl⟩ := hH_23.ex
    clear hH_23
    refine Run.seq ?_
    refine Run.region ?_
    refine RL.val (x_ltI rfl rfl) ?_
    refine RL.nil ?_
    refine Run.seq ?_
    refine Run.cond rfl (fun hc23 => ?_) (fun hc23 => ?_)
    · try simp only [br] at hc23
      refine Run.skip ?_
      refine Run.seq ?_
      refine Run.block ?_
      refine Run.seq ?_
      refine Run.region ?_
      obtain ⟨b_28, o_29, t, hx, ha_30, hc_31⟩ := hs.el (i := j) (by first | omega | (simp only [List.length_set]; omega))
      have hc_31_lt := hc_31.lt
      replace hc_31 := hc_31.keep K0 (hsd _ ha_30 (ne_get hx))
      refine RL.val (x_idxN Try.underlying32 ty70 rfl rfl ha_30 (by first | omega | (simp only [List.length_set]; omega))) ?_
      refine RL.val (x_ldV (v := .agg #[.string ((t).name), .int .i64 ((t).keep), .slice ((t).junk.a) ((t).junk.len) ((t).junk.cap)]) (y := t) ty70 rfl hc_31 rfl) ?_
      refine RL.st rfl <| St1.alloc ty70 ?_
      intro b_34 w_35 hl_38 hb_37 K_36
      replace hb_37 : Blk w_35 b_34 [.string (⟨#[]⟩), .int .i64 (0), .slice (none) (0) (0)] 70 := hb_37
      have ne_39 : b_28 < b_34 := Nat.lt_of_lt_of_le hc_31.lt hl_38
      have pr_40 : ¬ own a b_34 := fun h => absurd (ho_3.own_lt _ h) (by omega)
      have pr_41 : ¬ leftS ls b_34 := fun h => absurd (hO_24.own_lt _ h) (by omega)
      have : w.heap.size ≤ b_34 := Nat.le_trans K0.size hl_38
      clear hl_38
      replace ho_3 := ho_3.ext K_36
      replace hO_24 := hO_24.ext K_36
      replace hc_31 := hc_31.ext K_36
      replace K0 := K0.ext K_36
      refine RL.st rfl <| St1.store (v := .agg #[.string ((t).name), .int .i64 ((t).keep), .slice ((t).junk.a) ((t).junk.len) ((t).junk.cap)]) ty70 rfl rfl rfl (by simp [Value.cells, Value.oneCell']) hb_37 (by simp) ?_
      intro w_42 hb_37_ K_43
      have hb_37' : Blk w_42 b_34 [.string ((t).name), .int .i64 ((t).keep), .slice ((t).junk.a) ((t).junk.len) ((t).junk.cap)] 70 := hb_37_
      clear hb_37_
      replace ho_3 := ho_3.keepO K_43 (fun q_ hq_ eq_ => pr_40 (by simp only [one] at eq_; rw [← eq_]; exact hq_))
      replace hO_24 := hO_24.keepO K_43 (fun q_ hq_ eq_ => pr_41 (by simp only [one] at eq_; rw [← eq_]; exact hq_))
      replace hc_31 := hc_31.keep K_43 (by simp only [one]; omega)
      replace K0 := K0.trans K_43 (fun x hlt hx => absurd hlt (by simp only [one] at hx; omega))
      replace hb_37 := hb_37'
      clear hb_37'
      refine RL.nil ?_
      obtain ⟨x, hxl, hxj⟩ := left_get hll hx
      obtain ⟨hxi, hxe⟩ := List.getElem?_eq_some_iff.1 hxl
      obtain ⟨l1, l2, hls⟩ := List.append_of_mem (List.mem_of_getElem? hxl)
      obtain ⟨hjx, hL2, hLx⟩ := hO_24.openE hls
      have hxm := own_max hjx
      have pr_44 : ∀ q_, own x.a q_ → ¬ own a q_ := fun q_ h_ => pr_25 q_ ((left_subO hls) q_ h_)
      have pr_45 : ¬ own x.a b_34 := fun h_ => pr_41 ((left_subO hls) _ h_)
      have pr_46 : ∀ q_, leftS (l1 ++ l2) q_ → ¬ own a q_ := fun q_ h_ => pr_25 q_ ((left_subR hls) q_ h_)
      have pr_47 : ¬ leftS (l1 ++ l2) b_34 := fun h_ => pr_41 ((left_subR hls) _ h_)
      rw [show Value.slice t.junk.a t.junk.len t.junk.cap = .slice x.a x.bytes.length x.cap by rw [hxj]] at hb_37
      refine Run.seq ?_
      refine Run.region ?_
      refine RL.val (x_fld (o' := 2) Try.underlying70 rfl ty26 rfl rfl rfl) ?_
      refine RL.val (x_ld (v := .slice (x.a) (x.bytes.length) (x.cap)) ty26 rfl rfl (hb_37.cl.field (i := 2) rfl)) ?_
      refine RL.val (x_lenSl Try.underlying26 rfl) ?_
      refine RL.val (x_moveI rfl) ?_
      refine RL.nil ?_
      refine Run.block ?_
      refine Run.loop (ι := Nat) (fun k ρ' w' => ∃ ys2 : List UInt8, Holds ρ' [(6, .pointer (some ⟨b_34, 0, none⟩)), (20, .slice (at1) ((cs.map CT.t).length) (ct)), (21, .int .i64 ((((cs.map CT.t).length : Nat) : Int))), (22, .int .i64 (((j : Nat) : Int))), (23, .bool (decide (((j : Nat) : Int) < (((cs.map CT.t).length : Nat) : Int)))), (28, .int .i64 (((x.bytes.length : Nat) : Int))), (29, .int .i64 (((k : Nat) : Int)))] ∧ Keeps (fun q => own a q ∨ leftS (cs.map CT.l) q) w w' ∧ (Blk w' b_34 [.string ((t).name), .int .i64 ((t).keep), .slice (x.a) ((ys2).length) (x.cap)] 70) ∧ (OwnSl w' 5 (a) (c) (ys)) ∧ (LeftAt w' (l1 ++ l2)) ∧ (OwnSl w' 5 x.a x.cap (ys2)) ∧ (¬ own x.a b_34) ∧ (∀ q_, own x.a q_ → ¬ own a q_) ∧ (∀ q_, own x.a q_ → ¬ leftS (l1 ++ l2) q_) ∧ (∀ q_, own x.a q_ → q_ < w.heap.size → (fun q => own a q ∨ leftS (cs.map CT.l) q) q_) ∧ (k ≤ x.bytes.length) ∧ (ys2.length = x.bytes.length)) (fun k => x.bytes.length - k) 0 ?_ ?_
      · refine ⟨_, ⟨rfl, rfl, rfl, rfl, rfl, rfl, rfl, trivial⟩, K0, hb_37, ho_3, hL2, hjx, pr_45, pr_44, (fun q_ h1 h2 => hLx q_ h2 h1), (fun q_ h_ hl_ => pr_26 q_ ((left_subO hls) q_ h_) hl_), ?_, ?_⟩
        · omega
        · rfl
      clear ho_3 hb_37 hjx hL2
      clear K0
      rintro k ρ_55 w_48 ⟨ys2, hH_49, K0, hb_37, ho_3, hL2, ho_50, pr_51, pr_52, pr_53, pr_54, hk, hys2⟩ ih3
      obtain ⟨ρ₀, rfl⟩ := hH_49.ex
      clear hH_49
      refine Run.seq ?_
      refine Run.region ?_
      refine RL.val (x_ltI rfl rfl) ?_
      refine RL.nil ?_
      refine Run.seq ?_
      refine Run.cond rfl (fun hc30 => ?_) (fun hc30 => ?_)
      · try simp only [br] at hc30
        refine Run.skip ?_
        refine Run.seq ?_
        refine Run.block ?_
        refine Run.seq ?_
        refine Run.region ?_
        refine RL.val (x_moveI rfl) ?_
        refine RL.val (x_assignI rfl) ?_
        refine RL.nil ?_
        refine Run.region ?_
        refine RL.val (x_fld (o' := 2) Try.underlying70 rfl ty26 rfl rfl rfl) ?_
        refine RL.val (x_ld (v := .slice (x.a) ((ys2).length) (x.cap)) ty26 rfl rfl (hb_37.cl.field (i := 2) rfl)) ?_
        refine RL.val (x_moveI rfl) ?_
        obtain ⟨b_56, o_57, z2, hz2, ha_58, hc_59⟩ := ho_50.sl.el (i := k) (by first | omega | (simp only [List.length_set]; omega))
        refine RL.val (x_idxN Try.underlying26 ty5 rfl rfl ha_58 (by first | omega | (simp only [List.length_set]; omega))) ?_
        refine RL.val (x_ldV (v := .int .u8 (((z2).toNat : Int))) (y := z2) ty5 rfl hc_59 rfl) ?_
        refine RL.val (x_xorB (m := 85) rfl rfl (by decide)) ?_
        obtain ⟨b_62, o_63, x_66, hx_67, ha_64, hc_65⟩ := ho_50.sl.el (i := k) (by first | omega | (simp only [List.length_set]; omega))
        obtain rfl : z2 = x_66 := Option.some.inj (hz2.symm.trans hx_67)
        refine RL.val (x_idxN Try.underlying26 ty5 rfl rfl ha_64 (by first | omega | (simp only [List.length_set]; omega))) ?_
        refine RL.st rfl <| St1.storeEl (v := .int .u8 (((z2 ^^^ UInt8.ofNat 85).toNat : Int))) (off := 0) (i := k) (z2 ^^^ UInt8.ofNat 85) ty5 rfl rfl rfl (by simp [Value.cells, Value.oneCell']) ho_50 ha_64 hx_67 rfl (by decide) rfl ?_
        intro w_68 ho_70 K_69
        clear hc_59
        clear hc_65
        replace hb_37 := hb_37.keep K_69 pr_51
        replace ho_3 := ho_3.keepO K_69 (fun q_ h1 h2 => pr_52 q_ h2 h1)
        replace hL2 := hL2.keepO K_69 (fun q_ h1 h2 => pr_53 q_ h2 h1)
        replace K0 := K0.trans K_69 (fun x hlt hx => pr_54 x hx hlt)
        replace ho_50 := ho_70
        clear ho_70
        rw [show (ys2).length = (ys2.set k (z2 ^^^ UInt8.ofNat 85)).length from (List.length_set ..).symm] at hb_37
        refine RL.nil ?_
        refine Run.inBlock ?_
        refine Run.region ?_
        refine RL.val (litI (c := ((k + 1 : Nat) : Int)) (x_add rfl rfl (by omega) (by omega)) rfl) ?_
        refine RL.val (x_moveI rfl) ?_
        refine RL.nil ?_
        refine ih3 (k + 1) _ _ ?_ (by omega)
        refine ⟨_, ⟨rfl, rfl, rfl, rfl, rfl, rfl, rfl, trivial⟩, K0, hb_37, ho_3, hL2, ho_50, pr_51, pr_52, pr_53, pr_54, ?_, ?_⟩
        · omega
        · rw [List.length_set]; exact hys2
      · try simp only [br] at hc30
        refine Run.exit rfl ?_
        refine Run.inBlock ?_
        refine Run.region ?_
        refine RL.val (litI (c := ((j + 1 : Nat) : Int)) (x_add rfl rfl (by omega) (by omega)) rfl) ?_
        refine RL.val (x_moveI rfl) ?_
        refine RL.nil ?_
        have hL3 : LeftAt w_48 (l1 ++ (⟨x.name, x.a, x.cap, ys2⟩ : LeftS) :: l2) := LeftAt.put (x := ⟨x.name, x.a, x.cap, ys2⟩) ho_50 hL2 (fun q_ h1 h2 => pr_53 q_ h2 h1)
        have pr_71 : ¬ leftS (l1 ++ (⟨x.name, x.a, x.cap, ys2⟩ : LeftS) :: l2) b_34 := fun x_ => (left_midN _ x_).elim pr_51 (fun y_ => pr_47 y_)
        have pr_72 : ∀ q_, leftS (l1 ++ (⟨x.name, x.a, x.cap, ys2⟩ : LeftS) :: l2) q_ → ¬ own a q_ := fun q_ x_ z_ => (left_midN _ x_).elim (fun y_ => pr_52 q_ y_ z_) (fun y_ => (fun y_ => pr_46 q_ y_ z_) y_)
        have pg_73 : ∀ q_, leftS (l1 ++ (⟨x.name, x.a, x.cap, ys2⟩ : LeftS) :: l2) q_ → q_ < w.heap.size → (fun q => own a q ∨ leftS (cs.map CT.l) q) q_ := fun q_ x_ hl_ => (left_midN _ x_).elim (fun y_ => pr_54 q_ y_ hl_) (fun y_ => (fun y_ => (fun q_ h_ hl_ => pr_26 q_ ((left_subR hls) q_ h_) hl_) q_ y_ hl_) y_)
        have hll' := left_set hll hls hys2
        refine ih2 (j + 1) _ _ ?_ (by omega)
        refine ⟨(l1 ++ (⟨x.name, x.a, x.cap, ys2⟩ : LeftS) :: l2), ⟨rfl, rfl, rfl, trivial⟩, K0, ho_3, hL3, pr_72, pg_73, ?_, ?_⟩
        · omega
        · exact hll'
    · try simp only [br] at hc23
      refine Run.exit rfl ?_
      refine Run.fin0 Try.func44 rfl ?_
      exact ⟨_, rfl, rfl, K0⟩

end Go.Proofs.Ytambibdkanpmaaa
