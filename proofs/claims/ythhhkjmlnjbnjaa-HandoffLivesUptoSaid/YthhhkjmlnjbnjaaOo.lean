/-
  Layer 18, the document's sender: Begin, Cancel, Tick, On, New.
-/
import Derived.Test.YthhhkjmlnjbnjaaRows
import Derived.Test.YthhhkjmlnjbnjaaOn
namespace Go.Proofs.Ythhhkjmlnjbnjaa
attribute [local irreducible] St1 RL RA RT RT1 Run

def withR (t : TrS RKey) (l : List RKey) : TrS RKey := ⟨t.blk, t.part, t.to, t.a, t.cap, l⟩
structure RTrsM (w : World) (ts us : List (TrS RKey)) : Prop where
  at_ : TrsAt 109 116 w us
  same : ∀ q, trsS us q ↔ trsS ts q
  ptr : us.map TrS.ptr = ts.map TrS.ptr
  rok : ∀ t ∈ us, ROk t.left
def reachS (s : Nat) (ts : List (TrS RKey)) : Nat → Prop := fun q => q = s ∨ trsS ts q
section
variable {self now req part to r : Int} {pl pl' : List (PTr Item)} {ts us l1 l2 : List (TrS RKey)} {t : TrS RKey} {k i : Nat} {keys : List ByteArray} {nl : List Item} {w w' : World} {s : Nat} {al al' : Option Addr} {S : Nat → Prop} {n cl : Nat} {m : HMsg} {l' : List RKey}
theorem RTrsM.of (h : TrsAt 109 116 w ts) (h2 : ∀ t ∈ ts, ROk t.left) : RTrsM w ts ts := ⟨h, fun _ => Iff.rfl, rfl, h2⟩
theorem RTrsM.own_lt (h : RTrsM w ts us) : ∀ q, trsS ts q → q < w.heap.size := fun q hq => h.at_.own_lt q ((h.same q).2 hq)
theorem RTrsM.keepO (h : RTrsM w ts us) (k : Keeps S w w') (hn : ∀ q, trsS ts q → ¬ S q) : RTrsM w' ts us := ⟨h.at_.keepO k fun q hq => hn q ((h.same q).1 hq), h.same, h.ptr, h.rok⟩
theorem RTrsM.ext (h : RTrsM w ts us) (k : Ext w w') : RTrsM w' ts us := h.keepO k fun _ _ => id
theorem rtellE (hB : Blk w s [.int .i64 self, .int .i64 now, .int .i64 req, .slice al n cl] 105) (h : RTrsM w ts us) (hap : ¬ trsS ts s) (e : us = l1 ++ t :: l2) (hk : LOk now (t.left.map rk)) (h0 : 0 ≤ now ∧ now ≤ 9223372036854775807) (hl : t.left.length ≤ 4294967295) (hr : 0 ≤ req ∧ req ≤ 1099511627776) :
    Calls Try.prog 62 #[.pointer (some ⟨s, 0, none⟩), .pointer (some ⟨t.blk, 0, none⟩)] w (Ret fun v w' => ∃ a' c' l', v = .slice a' ((tellP now req (t.left.map rk)).T.map (msgH self t.to t.part)).length c' ∧ OwnSl w' 46 a' c' ((tellP now req (t.left.map rk)).T.map (msgH self t.to t.part)) ∧ (∀ q, own a' q → w.heap.size ≤ q) ∧
      Blk w' s [.int .i64 self, .int .i64 now, .int .i64 (tellP now req (t.left.map rk)).r, .slice al n cl] 105 ∧ l'.map rk = (tellP now req (t.left.map rk)).L ∧ RTrsM w' ts (l1 ++ withR t l' :: l2) ∧ Keeps (reachS s ts) w w') := by
  obtain ⟨hA, hs, hp, hro⟩ := h
  obtain ⟨ht, hR, hRt⟩ := hA.openE e
  have hsub : ∀ q, trS t q → trsS ts q := fun q h => (hs q).1 ⟨t, rmem_tr e, h⟩
  have hsub2 : ∀ q, trsS (l1 ++ l2) q → trsS ts q := fun q h => (hs q).1 (trs_subR e q h)
  refine (rtell_ s al n cl self now req t.blk t.part t.to t.a t.cap t.left w hB ht.blk ht.own ht.apart (fun h => hap (hsub _ (.inr h))) (fun e2 => hap (hsub _ (.inl e2.symm))) hk (hro t (rmem_tr e)) h0 hl hr).mono fun e' w' he => ?_
  obtain ⟨v, rfl, a', c', l', rfl, ho, hn, hB', hl', hro', hot, K⟩ := he
  have hll : l'.length = t.left.length := by
    have := congrArg List.length hl'
    rw [List.length_map, tellP_L, List.length_map] at this
    exact this
  refine ⟨_, rfl, a', c', l', rfl, ho, hn, hB', hl', ⟨TrsAt.close ⟨?_, hot, ht.apart⟩ (hR.keepO K ?_) hRt, fun q => ?_, ?_, fun x hx => ?_⟩, K.mono fun q _ h => h.elim .inl (fun h => .inr (hsub q (.inr h)))⟩
  · have h2 := ht.blk.keep K (fun h => h.elim (fun e2 => hap (hsub _ (.inl e2.symm))) ht.apart)
    show Blk w' t.blk [.int .i64 t.part, .int .i64 t.to, .slice t.a l'.length t.cap] 109
    rw [hll]; exact h2
  · exact fun q hq h => h.elim (fun e2 => hap (e2 ▸ hsub2 q hq)) (fun h => hRt q hq (.inr h))
  · rw [← hs q, e, trsS_mid, trsS_mid]; exact Iff.rfl
  · rw [← hp, e, List.map_append, List.map_append]; rfl
  · rcases List.mem_append.1 hx with hx | hx
    · exact hro x (by rw [e]; exact List.mem_append.2 (.inl hx))
    · rcases List.mem_cons.1 hx with rfl | hx
      · exact hro'
      · exact hro x (by rw [e]; exact List.mem_append.2 (.inr (List.mem_cons_of_mem _ hx)))
theorem reach_at (hup : us.map TrS.rp = (tkI self now req (ts.map TrS.rp) i).L ++ (ts.map TrS.rp).drop i) (hti : us[i]? = some t) (hi : i ≤ ts.length) : (ts.map TrS.rp)[i]? = some t.rp := by
  have h1 := rp_get hti
  have h2 := (tkI_r (self := self) (now := now) (r := req) (pl := ts.map TrS.rp) i (by rw [List.length_map]; exact hi)).2.2.2
  rw [hup, List.getElem?_append_right (by omega), h2, List.getElem?_drop] at h1
  simpa using h1
theorem reach_up (hup : us.map TrS.rp = (tkI self now req (ts.map TrS.rp) i).L ++ (ts.map TrS.rp).drop i) (e : us = l1 ++ t :: l2) (hl1 : l1.length = i) (h : (ts.map TrS.rp)[i]? = some t.rp) (hl' : l'.map rk = (tellP now (tkI self now req (ts.map TrS.rp) i).r (t.left.map rk)).L) :
    (l1 ++ withR t l' :: l2).map TrS.rp = (tkI self now req (ts.map TrS.rp) (i + 1)).L ++ (ts.map TrS.rp).drop (i + 1) := by
  have hi := (List.getElem?_eq_some_iff.1 h).1
  have h2 := (tkI_r (self := self) (now := now) (r := req) (pl := ts.map TrS.rp) i (by omega)).2.2.2
  rw [e, List.map_append, List.map_cons] at hup
  obtain ⟨h3, h4⟩ := List.append_inj hup (by rw [List.length_map, hl1, h2])
  rw [List.drop_eq_getElem_cons hi] at h4
  rw [List.map_append, List.map_cons, h3, (List.cons.inj h4).2, tkI_succ h, tkStep, List.append_assoc]
  have : (withR t l').rp = ⟨t.rp.part, t.rp.to, (tellP now (tkI self now req (ts.map TrS.rp) i).r t.rp.left).L⟩ := by
    show (⟨t.part, t.to, l'.map rk⟩ : PTr Item) = _
    rw [hl']; rfl
  rw [this]; rfl
theorem rtick_end (h : i = ts.length) : tkI self now req (ts.map TrS.rp) i = tickP self now req (ts.map TrS.rp) := by rw [h, tickP, List.length_map]
theorem beg_may1 (h : ¬ mayE self part to = 0) : begE self pl part to keys = 1 ∧ begL self pl part to keys nl = pl := by
  have := beg_may (pl := pl) (keys := keys) (nl := nl) h
  rwa [mayE_one h] at this
theorem can_may1 (h : ¬ mayE self part to = 0) : canE self pl part to = 1 ∧ canL self pl part to = pl := by
  have := can_may (pl := pl) h
  rwa [mayE_one h] at this
theorem rdel_ptr (e : ts = l1 ++ t :: l2) (h : l1.length = k) : delI (ts.map TrS.ptr) k = (l1 ++ l2).map TrS.ptr := by
  rw [del_mid (l1 := l1.map TrS.ptr) (l2 := l2.map TrS.ptr) (x := t.ptr) (by rw [e, List.map_append, List.map_cons]) (by rw [List.length_map, h]), List.map_append]
theorem rdel_p (e : ts = l1 ++ t :: l2) (h : l1.length = k) : delI (ts.map TrS.rp) k = (l1 ++ l2).map TrS.rp := by
  rw [del_mid (l1 := l1.map TrS.rp) (l2 := l2.map TrS.rp) (x := t.rp) (by rw [e, List.map_append, List.map_cons]) (by rw [List.length_map, h]), List.map_append]
theorem rwithout_in (hx : (ts.map TrS.rp).findIdx? (sameT part to) = some k) (e : ts = l1 ++ t :: l2) (h : l1.length = k) : without (ts.map TrS.rp) part to = (l1 ++ l2).map TrS.rp := by rw [without, hx]; exact rdel_p e h
theorem rbeg_in (h : mayE self part to = 0) (hk : keys.any (fun k => !isKey k) = false) (hl : leftN (ts.map TrS.rp) part to = 0) (hx : (ts.map TrS.rp).findIdx? (sameT part to) = some k) (e : ts = l1 ++ t :: l2) (h1 : l1.length = k) :
    begE self (ts.map TrS.rp) part to keys = 0 ∧ begL self (ts.map TrS.rp) part to keys nl = (l1 ++ l2).map TrS.rp ++ [⟨part, to, nl⟩] := by
  have := beg_ok (self := self) (nl := nl) h hk hl
  rwa [rwithout_in hx e h1] at this
theorem rcan_in (h : mayE self part to = 0) (hl : leftN (ts.map TrS.rp) part to ≠ 0) (hx : (ts.map TrS.rp).findIdx? (sameT part to) = some k) (e : ts = l1 ++ t :: l2) (h1 : l1.length = k) :
    canE self (ts.map TrS.rp) part to = 0 ∧ canL self (ts.map TrS.rp) part to = (l1 ++ l2).map TrS.rp := by
  have e2 : canE self (ts.map TrS.rp) part to = 0 := by rw [canE, if_pos h, if_neg hl]
  exact ⟨e2, by rw [canL, if_pos e2, rwithout_in hx e h1]⟩
theorem rsnoc_ptr (ts : List (TrS RKey)) (b : Nat) (p o : Int) (a : Option Addr) (c : Nat) (l : List RKey) : ts.map TrS.ptr ++ [some (⟨b, 0, none⟩ : Addr)] = (ts ++ [(⟨b, p, o, a, c, l⟩ : TrS RKey)]).map TrS.ptr := by rw [List.map_append]; rfl
theorem SOk.sub (h : SOk self now pl) (hs : ∀ x ∈ pl', x ∈ pl) : SOk self now pl' := ⟨h.self0, h.now0, fun x hx => h.all x (hs x hx)⟩
theorem SOk.rdel (h : SOk self now (ts.map TrS.rp)) (e : ts = l1 ++ t :: l2) : SOk self now ((l1 ++ l2).map TrS.rp) := h.sub fun x hx => by
  subst e
  simp only [List.map_append, List.map_cons, List.mem_append, List.mem_cons] at hx ⊢
  rcases hx with hx | hx
  · exact .inl hx
  · exact .inr (.inr hx)
theorem SOk.rsnoc (h : SOk self now (ts.map TrS.rp)) (ht : LOk now (t.left.map rk) ∧ (t.left.map rk).length ≤ 4294967295) : SOk self now ((ts ++ [t]).map TrS.rp) := by
  refine ⟨h.self0, h.now0, fun x hx => ?_⟩
  rw [List.map_append] at hx
  rcases List.mem_append.1 hx with hx | hx
  · exact h.all x hx
  · simp only [List.map_cons, List.map_nil, List.mem_singleton] at hx; subst hx; exact ht
theorem rok_del (h : ∀ t ∈ ts, ROk t.left) (e : ts = l1 ++ t :: l2) : ∀ t ∈ l1 ++ l2, ROk t.left := fun x hx => h x (by
  subst e
  rcases List.mem_append.1 hx with hx | hx
  · exact List.mem_append.2 (.inl hx)
  · exact List.mem_append.2 (.inr (List.mem_cons_of_mem _ hx)))
theorem rok_snoc (h : ∀ t ∈ ts, ROk t.left) (ht : ROk t.left) : ∀ y ∈ ts ++ [t], ROk y.left := fun x hx => by
  rcases List.mem_append.1 hx with hx | hx
  · exact h x hx
  · simp only [List.mem_singleton] at hx; subst hx; exact ht
theorem rok_new (ks : List ByteArray) : ROk (ks.map newR) := fun x hx h => by
  obtain ⟨k, _, rfl⟩ := List.mem_map.1 hx
  exact absurd h Bool.false_ne_true
theorem rok_delI {l : List RKey} (h : ROk l) (j : Nat) : ROk (delI l j) := fun x hx => h x (mem_del hx)
theorem rnewI_ok (h0 : 0 ≤ now) (hk : ∀ k ∈ keys, k.size ≤ 32) (hl : keys.length ≤ 1048576) (h : i = keys.length) : LOk now (((withI keys i).map newR).map rk) ∧ (((withI keys i).map newR).map rk).length ≤ 4294967295 := by
  rw [rk_new, withI_end h]; exact newI_ok h0 hk hl
theorem rsnd_moved (h1 : ∀ q, own al' q → q < w.heap.size → sndS s al ts q) (h2 : ∀ q, trsS us q → q < w.heap.size → sndS s al ts q) : ∀ q, sndS s al' us q → q < w.heap.size → sndS s al ts q := by
  rintro q (rfl | h | h) hl
  · exact .inl rfl
  · exact h1 q h hl
  · exact h2 q h hl
theorem rsnd_of (hB : Blk w s [.int .i64 self, .int .i64 now, .int .i64 req, .slice al (ts.map TrS.ptr).length cl] 105) (hM : RTrsM w ts us) (ho : OwnSl w 110 al cl (ts.map TrS.ptr)) (hos : ¬ own al s) (htss : ¬ trsS ts s) (hto : ∀ q, trsS ts q → ¬ own al q) (hok : SOk self now (us.map TrS.rp)) :
    RSndO w s al cl self now req us := by
  obtain ⟨hA, hs, hp, hro⟩ := hM
  rw [← hp] at hB ho
  exact ⟨hB, ho, hA, hos, fun h => htss ((hs _).1 h), fun q h => hto q ((hs q).1 h), hok, hro⟩
theorem told_apart {a : Option Addr} (h1 : ¬ own a s) (h2 : ∀ q, own a q → ¬ own al q) (h3 : ∀ q, trsS us q → ¬ own a q) : ∀ q, own a q → ¬ sndS s al us q := by
  rintro q h (rfl | h4 | h4)
  · exact h1 h
  · exact h2 q h h4
  · exact h3 q h4 h
theorem reach_l : reachS s ts s := .inl rfl
theorem reach_r : ∀ q, trsS ts q → reachS s ts q := fun _ h => .inr h
theorem tellS_l {a : Option Addr} : tellS s a s := .inl rfl
theorem tellS_r {a : Option Addr} : ∀ q, own a q → tellS s a q := fun _ h => .inr h
theorem reach_case : ∀ q, reachS s ts q → q = s ∨ trsS ts q := fun _ h => h
theorem ack_y {x : RKey} {key : ByteArray} {rq : Int} (h : (x.name = key ∧ x.sent = true) ∧ x.req = rq) (h0 : x.sent = true → 0 ≤ x.since) : ackI key rq (rk x) = true := by
  have h1 := h0 h.1.2
  rw [← rk_yes h.1.2] at h1
  show ((decide (x.name = key) && decide (0 ≤ (rk x).since)) && decide (x.req = rq)) = true
  rw [decide_eq_true h.1.1, decide_eq_true h1, decide_eq_true h.2]; rfl
theorem ack_n {x : RKey} {key : ByteArray} {rq : Int} (h : (¬ x.name = key ∨ x.sent = false) ∨ ¬ x.req = rq) : ackI key rq (rk x) = false := by
  rw [Bool.eq_false_iff]
  intro e
  have e : ((decide (x.name = key) && decide (0 ≤ (rk x).since)) && decide (x.req = rq)) = true := e
  simp only [Bool.and_eq_true, decide_eq_true_eq] at e
  rcases h with (h | h) | h
  · exact h e.1.1
  · have := e.1.2; rw [rk_no h] at this; omega
  · exact h e.2
theorem rk_del (l : List RKey) (j : Nat) : (delI l j).map rk = delI (l.map rk) j := by rw [delI, delI, List.map_append, List.map_take, List.map_drop]
theorem ron_key (hx : (ts.map TrS.rp).findIdx? (sameT m.part m.frm) = some k) (ht : ts[k]? = some t) (h : (t.left.map rk).findIdx? (ackI m.key m.req) = none) : onP self now req (ts.map TrS.rp) m = ⟨req, ts.map TrS.rp, []⟩ := by
  unfold onP; rw [hx]; simp only [rp_get ht]; rw [show t.rp.left = t.left.map rk from rfl, h]; exact ite_self _
theorem ron_in {j : Nat} (hm : m.kind = 11) (hx : (ts.map TrS.rp).findIdx? (sameT m.part m.frm) = some k) (ht : ts[k]? = some t) (e : ts = l1 ++ t :: l2) (hl1 : l1.length = k) (h : (t.left.map rk).findIdx? (ackI m.key m.req) = some j) :
    onP self now req (ts.map TrS.rp) m = ⟨(tellP now req ((delI t.left j).map rk)).r, l1.map TrS.rp ++ ⟨t.part, t.to, (tellP now req ((delI t.left j).map rk)).L⟩ :: l2.map TrS.rp, (tellP now req ((delI t.left j).map rk)).T.map (msgH self t.to t.part)⟩ := by
  rw [rk_del]
  unfold onP; rw [if_pos hm, hx]; simp only [rp_get ht]; rw [show t.rp.left = t.left.map rk from rfl, h]
  simp only
  rw [set_mid (l1 := l1.map TrS.rp) (x := t.rp) (l2 := l2.map TrS.rp) (by rw [e, List.map_append, List.map_cons]) (by rw [List.length_map, hl1])]
  rfl
theorem ron_ok {b : Nat} {a : Option Addr} {c j : Nat} (hok : SOk self now (ts.map TrS.rp)) (hts : ts = l1 ++ t :: l2) (hl' : l'.map rk = (tellP now req ((delI t.left j).map rk)).L) : SOk self now ((l1 ++ (⟨b, t.part, t.to, a, c, l'⟩ : TrS RKey) :: l2).map TrS.rp) := by
  rw [rk_del] at hl'
  refine ⟨hok.self0, hok.now0, fun x hx => ?_⟩
  rw [List.map_append, List.map_cons] at hx
  rcases List.mem_append.1 hx with hx | hx
  · exact hok.all x (by rw [hts, List.map_append]; exact List.mem_append.2 (.inl hx))
  · rcases List.mem_cons.1 hx with rfl | hx
    · have h1 := hok.all t.rp (List.mem_map.2 ⟨t, rmem_tr hts, rfl⟩)
      show LOk now (l'.map rk) ∧ (l'.map rk).length ≤ _
      rw [hl']
      refine ⟨(h1.1.del j).tell hok.now0.1, ?_⟩
      rw [tellP_L]
      have := delI_len (t.left.map rk) j
      have h2 : (t.left.map rk).length ≤ 4294967295 := h1.2
      omega
    · exact hok.all x (by rw [hts, List.map_append]; exact List.mem_append.2 (.inr (List.mem_cons_of_mem _ hx)))
theorem ron_rok {b : Nat} {a : Option Addr} {c : Nat} (h : ∀ t ∈ ts, ROk t.left) (hts : ts = l1 ++ t :: l2) (hl : ROk l') : ∀ x ∈ l1 ++ (⟨b, t.part, t.to, a, c, l'⟩ : TrS RKey) :: l2, ROk x.left := fun x hx => by
  rcases List.mem_append.1 hx with hx | hx
  · exact h x (by rw [hts]; exact List.mem_append.2 (.inl hx))
  · rcases List.mem_cons.1 hx with rfl | hx
    · exact hl
    · exact h x (by rw [hts]; exact List.mem_append.2 (.inr (List.mem_cons_of_mem _ hx)))
theorem nokey_yes {x : ByteArray} (hx : keys[i]? = some x) (h : isKey x = false) : keys.any (fun k => !isKey k) = true := List.any_eq_true.2 ⟨x, List.mem_of_getElem? hx, by simp [h]⟩
theorem nokey_no (h : NoB (fun k => !isKey k) keys i) (hl : keys.length ≤ i) : keys.any (fun k => !isKey k) = false := List.any_eq_false.2 fun x hx => by
  obtain ⟨j, hj, e⟩ := List.getElem_of_mem hx
  have := h j x (by omega) (by rw [← e]; exact List.getElem?_eq_getElem hj)
  simpa using this
end

theorem en55 : Enters Try.prog 55 := enters_of Try.func55 rfl (by kernel_rfl)
theorem en56 : Enters Try.prog 56 := enters_of Try.func56 rfl (by kernel_rfl)
theorem en58 : Enters Try.prog 58 := enters_of Try.func58 rfl (by kernel_rfl)
theorem en61 : Enters Try.prog 61 := enters_of Try.func61 rfl (by kernel_rfl)
theorem en62 : Enters Try.prog 62 := enters_of Try.func62 rfl (by kernel_rfl)

set_option maxRecDepth 100000 in
set_option maxHeartbeats 4000000 in
theorem rbegin_ (s : Nat) (al : Option Addr) (cl : Nat) (self now req : Int) (ts : List (TrS RKey)) (part to : Int) (ak : Option Addr) (keys : List ByteArray) (ck : Nat) (w : World) (hD : RSndO w s al cl self now req ts) (hL : ts.length ≤ 1000) (hka : SlOf w ak keys) (hdk : ∀ x, ak = some x → keys ≠ [] → ¬ sndS s al ts x.block) (hkyl : keys.length ≤ 1048576) (hks : ∀ k ∈ keys, k.size ≤ 4294967295) :
    Calls Try.prog 29 #[.pointer (some ⟨s, 0, none⟩), .int .i64 (part), .int .i64 (to), .slice (ak) (keys.length) (ck)] w (Ret (fun v w' => ∃ al' cl' ts', v = .int .i64 (begE self (ts.map TrS.rp) part to keys) ∧ RSndO w' s al' cl' self now req ts' ∧ ts'.map TrS.rp = begL self (ts.map TrS.rp) part to keys (newI (uniq (sortN keys))) ∧ (∀ q, sndS s al' ts' q → q < w.heap.size → sndS s al ts q) ∧ Keeps (sndS s al ts) w w')) := by
  obtain ⟨hB, ho, hT, hos, htss, hto, hok, hrok⟩ := hD
  have hlp := rptr_len ts
  have hs0 := hok.self0
  have hn0 := hok.now0
  refine calls_run (n := 74) Try.func29 rfl rfl rfl ?_
  refine Run.seq ?_
  refine Run.region ?_
  refine RL.val (x_assignI rfl) ?_
  refine RL.nil ?_
  refine Run.seq ?_
  refine Run.seq ?_
  refine Run.region ?_
  refine RL.val (x_moveP rfl) ?_
  refine RL.val (x_moveI rfl) ?_
  refine RL.val (x_moveI rfl) ?_
  refine RL.st rfl <| St1.call (vals := [.pointer (some ⟨s, 0, none⟩), .int .i64 (part), .int .i64 (to)]) en55 rfl (rmay_ s al cl self now req ts part to _ (⟨hB, ho, hT, hos, htss, hto, hok, hrok⟩ : RSndO _ s al cl self now req ts) hL) ?_
  rintro _ w_1 ⟨rfl, K_2⟩
  replace hB := hB.ext K_2
  replace ho := ho.ext K_2
  replace hT := hT.ext K_2
  have K0 := (K_2 : Ext w _).to (S := (sndS s al ts))
  refine RL.val (x_not rfl) ?_
  refine RL.nil ?_
  refine Run.cond rfl (fun hc16 => ?_) (fun hc16 => ?_)
  · try simp only [br] at hc16
    refine Run.seq ?_
    refine Run.region ?_
    refine RL.val (x_assignI rfl) ?_
    refine RL.nil ?_
    refine Run.ret1 (v := .int .i64 (1)) Try.func29 rfl rfl ?_
    exact ⟨_, rfl, al, cl, ts, by rw [(beg_may1 (nl := newI (uniq (sortN keys))) hc16).1], ⟨hB, ho, hT, hos, htss, hto, hok, hrok⟩, by rw [(beg_may1 (nl := newI (uniq (sortN keys))) hc16).2], fun _ h _ => h, K0⟩
  · try simp only [br] at hc16
    refine Run.skip ?_
    refine Run.seq ?_
    refine Run.region ?_
    refine RL.val (x_assignSl rfl) ?_
    refine RL.nil ?_
    refine Run.seq ?_
    refine Run.seq ?_
    refine Run.region ?_
    refine RL.val (x_assignI rfl) ?_
    refine RL.nil ?_
    refine Run.block ?_
    refine Run.loop (ι := Nat) (fun i ρ' w' => ∃ am : Option Addr, ∃ cm : Nat, Holds ρ' [(0, .pointer (some ⟨s, 0, none⟩)), (1, .int .i64 (part)), (2, .int .i64 (to)), (3, .slice (ak) (keys.length) (ck)), (9, .slice (am) (((withI keys i).map newR).length) (cm)), (10, .int .i64 (((i : Nat) : Int)))] ∧ Keeps (sndS s al ts) w w' ∧ (Blk w' s [.int .i64 (self), .int .i64 (now), .int .i64 (req), .slice (al) ((ts.map TrS.ptr).length) (cl)] 105) ∧ (OwnSl w' 110 (al) (cl) (ts.map TrS.ptr)) ∧ (TrsAt 109 116 w' ts) ∧ (OwnSl w' 116 am cm ((withI keys i).map newR)) ∧ (¬ own am s) ∧ (∀ q_, own am q_ → ¬ own al q_) ∧ (∀ q_, own am q_ → ¬ trsS ts q_) ∧ (∀ q_, own am q_ → q_ < w.heap.size → (sndS s al ts) q_) ∧ (∀ q_, own am q_ → w.heap.size ≤ q_) ∧ (i ≤ keys.length) ∧ (NoB (fun k => !isKey k) keys i)) (fun i => keys.length - i) 0 ?_ ?_
    · rw [show (withI keys 0).map newR = [] from rfl]
      have ho_11 := OwnSl.nil (α := RKey) w_1 116
      refine ⟨_, _, ⟨rfl, rfl, rfl, rfl, rfl, rfl, trivial⟩, K0, hB, ho, hT, ho_11, (own_none s), (fun q_ h1 _ => own_none q_ h1), (fun q_ h1 _ => own_none q_ h1), (fun q_ h1 _ => absurd h1 (own_none q_)), (fun q_ h1 => absurd h1 (own_none q_)), ?_, ?_⟩
      · omega
      · exact NoB.zero _ _
    clear hB ho hT
    clear K0
    rintro i ρ_12 w_3 ⟨am, cm, hH_4, K0, hB, ho, hT, ho_5, pr_6, pr_7, pr_8, pr_9, pr_10, hi, hno⟩ ih1
    obtain ⟨ρ₀, rfl⟩ := hH_4.ex
    clear hH_4
    refine Run.seq ?_
    refine Run.seq ?_
    refine Run.region ?_
    refine RL.val (x_moveI rfl) ?_
    refine RL.val (x_moveSl rfl) ?_
    refine RL.val (x_lenSl Try.underlying22 rfl) ?_
    refine RL.val (x_ltI rfl rfl) ?_
    refine RL.nil ?_
    refine Run.cond rfl (fun hc20 => ?_) (fun hc20 => ?_)
    · try simp only [br] at hc20
      refine Run.skip ?_
      refine Run.seq ?_
      refine Run.block ?_
      refine Run.seq ?_
      refine Run.seq ?_
      obtain ⟨x, hx⟩ : ∃ y_, keys[i]? = some y_ := ⟨_, List.getElem?_eq_getElem (by omega)⟩
      have hxs := hks x (mem_of_at hx)
      have hwl := withI_len (keys := keys) i (by omega)
      refine Run.region ?_
      refine RL.val (x_moveSl rfl) ?_
      refine RL.val (x_moveI rfl) ?_
      obtain ⟨b_13, o_14, x_17, hx_18, ha_15, hc_16⟩ := hka.el (i := i) (by first | omega | (simp only [List.length_set]; omega))
      have hc_16_lt := hc_16.lt
      replace hc_16 := hc_16.keep K0 (hdk _ ha_15 (ne_get hx_18))
      obtain rfl : x = x_17 := Option.some.inj (hx.symm.trans hx_18)
      refine RL.val (x_idxN Try.underlying22 ty9 rfl rfl ha_15 (by first | omega | (simp only [List.length_set]; omega))) ?_
      refine RL.val (x_ldV (v := .string (x)) (y := x) ty9 rfl hc_16 rfl) ?_
      refine RL.st rfl <| St1.call (vals := [.string (x)]) en38 rfl (refIsKey _ _ (by omega)) ?_
      rintro _ w_19 ⟨rfl, K_20⟩
      replace hB := hB.ext K_20
      replace ho := ho.ext K_20
      replace hT := hT.ext K_20
      replace ho_5 := ho_5.ext K_20
      replace hc_16 := hc_16.ext K_20
      replace K0 := K0.ext K_20
      refine RL.val (x_not rfl) ?_
      refine RL.nil ?_
      refine Run.cond rfl (fun hc28 => ?_) (fun hc28 => ?_)
      · try simp only [br] at hc28
        refine Run.seq ?_
        refine Run.region ?_
        refine RL.val (x_assignI rfl) ?_
        refine RL.nil ?_
        refine Run.ret1 (v := .int .i64 (6)) Try.func29 rfl rfl ?_
        exact ⟨_, rfl, al, cl, ts, by rw [(beg_key (nl := newI (uniq (sortN keys))) (by omega) (nokey_yes hx hc28)).1], ⟨hB, ho, hT, hos, htss, hto, hok, hrok⟩, by rw [(beg_key (nl := newI (uniq (sortN keys))) (by omega) (nokey_yes hx hc28)).2], fun _ h _ => h, K0⟩
      · try simp only [br] at hc28
        refine Run.skip ?_
        refine Run.region ?_
        refine RL.val (x_moveSl rfl) ?_
        refine RL.val (x_moveSl rfl) ?_
        refine RL.val (x_moveI rfl) ?_
        obtain ⟨b_21, o_22, x_25, hx_26, ha_23, hc_24⟩ := hka.el (i := i) (by first | omega | (simp only [List.length_set]; omega))
        have hc_24_lt := hc_24.lt
        replace hc_24 := hc_24.keep K0 (hdk _ ha_23 (ne_get hx_26))
        obtain rfl : x = x_25 := Option.some.inj (hx.symm.trans hx_26)
        refine RL.val (x_idxN Try.underlying22 ty9 rfl rfl ha_23 (by first | omega | (simp only [List.length_set]; omega))) ?_
        refine RL.val (x_ldV (v := .string (x)) (y := x) ty9 rfl hc_24 rfl) ?_
        refine RL.st rfl <| St1.call (vals := [.slice (am) (((withI keys i).map newR).length) (cm), .string (x)]) en56 rfl (with_ _ (withI keys i) _ _ _ ho_5 (by omega)) ?_
        rintro _ w_29 ⟨a_27, c_28, rfl, ho_30, hm_31, K_32⟩
        have pr_33 : ¬ own a_27 s := hm_31.not pr_6 hB.lt
        have pr_34 : ∀ q_, own a_27 q_ → ¬ own al q_ := hm_31.apart pr_7 ho.own_lt
        have pr_35 : ∀ q_, own a_27 q_ → ¬ trsS ts q_ := hm_31.apart pr_8 hT.own_lt
        have pg_36 : ∀ q_, own a_27 q_ → q_ < w.heap.size → (sndS s al ts) q_ := hm_31.inS pr_9 K0.size
        have pw_37 : ∀ q_, own a_27 q_ → w.heap.size ≤ q_ := hm_31.ge pr_10 K0.size
        replace hB := hB.ext K_32
        replace ho := ho.ext K_32
        replace hT := hT.ext K_32
        replace hc_24 := hc_24.ext K_32
        replace K0 := K0.ext K_32
        clear hm_31
        refine RL.val (x_assignSl rfl) ?_
        refine RL.nil ?_
        refine Run.inBlock ?_
        refine Run.region ?_
        refine RL.val (x_moveI rfl) ?_
        refine RL.val (litI (c := ((i + 1 : Nat) : Int)) (x_add rfl rfl (by omega) (by omega)) rfl) ?_
        refine RL.val (x_assignI rfl) ?_
        refine RL.nil ?_
        have e := withI_succ hx
        refine ih1 (i + 1) _ _ ?_ (by omega)
        rw [e]
        refine ⟨_, _, ⟨rfl, rfl, rfl, rfl, rfl, rfl, trivial⟩, K0, hB, ho, hT, ho_30, pr_33, pr_34, pr_35, pg_36, pw_37, ?_, ?_⟩
        · omega
        · exact hno.step hx (by simpa using hc28)
    · try simp only [br] at hc20
      refine Run.exit rfl ?_
      refine Run.seq ?_
      refine Run.region ?_
      refine RL.val (x_moveP rfl) ?_
      refine RL.val (x_moveI rfl) ?_
      refine RL.val (x_moveI rfl) ?_
      refine RL.st rfl <| St1.call (vals := [.pointer (some ⟨s, 0, none⟩), .int .i64 (part), .int .i64 (to)]) en57 rfl (rfind_ s al cl self now req ts part to _ (⟨hB, ho, hT, hos, htss, hto, hok, hrok⟩ : RSndO _ s al cl self now req ts) hL) ?_
      rintro _ w_38 ⟨rfl, K_39⟩
      replace hB := hB.ext K_39
      replace ho := ho.ext K_39
      replace hT := hT.ext K_39
      replace ho_5 := ho_5.ext K_39
      replace K0 := K0.ext K_39
      refine RL.val (x_assignI rfl) ?_
      refine RL.nil ?_
      refine Run.seq ?_
      refine Run.seq ?_
      by_cases hh : 0 ≤ findI (sameT part to) (ts.map TrS.rp)
      · obtain ⟨k, t, l1, l2, hk, hkl, hts, hl1, hti, hpt, hst, hfs, hfx⟩ := rtr_yes (ts := ts) (part := part) (to := to) (by omega)
        rw [hk]
        have hbt := (hT.all t (rmem_tr hts)).blk
        have hLt := hok.rat (rmem_tr hts)
        have ne_40 : t.blk ≠ s := fun e_ => htss (e_ ▸ trs_subB hts)
        refine Run.region ?_
        refine RL.val (x_moveI rfl) ?_
        refine RL.val (x_geI rfl rfl) ?_
        refine RL.val (x_moveB rfl) ?_
        refine RL.gval (wantedT rfl rfl rfl rfl) (fun hg => (x_moveP rfl)) ?_
        refine RL.gval (wantedT rfl rfl rfl rfl) (fun hg => (x_nilCheck (gvr hg))) ?_
        refine RL.gval (wantedT rfl rfl rfl rfl) (fun hg => (x_fld (o' := 3) Try.underlying105 rfl ty103 rfl (gvr hg) rfl)) ?_
        refine RL.gval (wantedT rfl rfl rfl rfl) (fun hg => (x_ld (v := .slice (al) ((ts.map TrS.ptr).length) (cl)) ty103 (gvr hg) rfl (hB.cl.field (i := 3) rfl))) ?_
        refine RL.gval (wantedT rfl rfl rfl rfl) (fun hg => (x_moveI rfl)) ?_
        obtain ⟨b_41, o_42, x_45, hx_46, ha_43, hc_44⟩ := ho.sl.el (i := k) (by first | omega | (simp only [List.length_set]; omega))
        obtain rfl : (some (⟨t.blk, 0, none⟩ : Addr)) = x_45 := Option.some.inj (hpt.symm.trans hx_46)
        refine RL.gval (wantedT rfl rfl rfl rfl) (fun hg => (x_idxN Try.underlying103 ty110 (gvr hg) (gvr hg) ha_43 (by first | omega | (simp only [List.length_set]; omega)))) ?_
        refine RL.gval (wantedT rfl rfl rfl rfl) (fun hg => (x_ldV (v := .pointer (some ⟨t.blk, 0, none⟩)) (y := (some (⟨t.blk, 0, none⟩ : Addr))) ty110 (gvr hg) hc_44 rfl)) ?_
        refine RL.gval (wantedT rfl rfl rfl rfl) (fun hg => (x_nilCheck (gvr hg))) ?_
        refine RL.gval (wantedT rfl rfl rfl rfl) (fun hg => (x_fld (o' := 2) Try.underlying109 rfl ty106 rfl (gvr hg) rfl)) ?_
        refine RL.gval (wantedT rfl rfl rfl rfl) (fun hg => (x_ld (v := .slice (t.a) (t.left.length) (t.cap)) ty106 (gvr hg) rfl (hbt.cl.field (i := 2) rfl))) ?_
        refine RL.gval (wantedT rfl rfl rfl rfl) (fun hg => (x_lenSl Try.underlying106 (gvr hg))) ?_
        refine RL.gval (wantedT rfl rfl rfl rfl) (fun hg => (x_gtI (gvr hg) rfl)) ?_
        refine RL.val (x_and rfl rfl rfl) ?_
        refine RL.nil ?_
        refine Run.cond rfl (fun hc54 => ?_) (fun hc54 => ?_)
        · try simp only [br] at hc54
          refine Run.seq ?_
          refine Run.region ?_
          refine RL.val (x_assignI rfl) ?_
          refine RL.nil ?_
          refine Run.ret1 (v := .int .i64 (61)) Try.func29 rfl rfl ?_
          exact ⟨_, rfl, al, cl, ts, by rw [(beg_there (nl := newI (uniq (sortN keys))) (by omega) (nokey_no hno (by omega)) (show leftN (ts.map TrS.rp) part to ≠ 0 by rw [(left_in hfs).1, left_len]; omega)).1], ⟨hB, ho, hT, hos, htss, hto, hok, hrok⟩, by rw [(beg_there (nl := newI (uniq (sortN keys))) (by omega) (nokey_no hno (by omega)) (show leftN (ts.map TrS.rp) part to ≠ 0 by rw [(left_in hfs).1, left_len]; omega)).2], fun _ h _ => h, K0⟩
        · try simp only [br] at hc54
          refine Run.skip ?_
          refine Run.seq ?_
          refine Run.seq ?_
          refine Run.region ?_
          refine RL.val (x_moveI rfl) ?_
          refine RL.val (x_geI rfl rfl) ?_
          refine RL.nil ?_
          refine Run.cond rfl (fun hc56 => ?_) (fun hc56 => ?_)
          · try simp only [br] at hc56
            refine Run.region ?_
            refine RL.val (x_moveP rfl) ?_
            refine RL.val (x_moveI rfl) ?_
            refine RL.st rfl <| St1.call (vals := [.pointer (some ⟨s, 0, none⟩), .int .i64 (((k : Nat) : Int))]) en58 rfl (without_ s _ _ _ _ _ _ k _ hB ho hos (by omega) (by omega)) ?_
            rintro _ w_49 ⟨a_47, c_48, rfl, hB_50, ho_51, hg_52, K_53⟩
            have pr_54 : ¬ own a_47 s := notNew hg_52 hB.lt
            have pr_55 : ∀ q_, own a_47 q_ → ¬ own al q_ := apartNew hg_52 ho.own_lt
            have pr_56 : ∀ q_, own a_47 q_ → ¬ trsS ts q_ := apartNew hg_52 hT.own_lt
            have pr_57 : ∀ q_, own a_47 q_ → ¬ own am q_ := apartNew hg_52 ho_5.own_lt
            have pr_58 : ¬ own a_47 t.blk := notNew hg_52 hbt.lt
            have pg_59 : ∀ q_, own a_47 q_ → q_ < w.heap.size → (sndS s al ts) q_ := fun q_ h hlt => absurd (Nat.le_trans K0.size (hg_52 q_ h)) (by omega)
            have pw_60 : ∀ q_, own a_47 q_ → w.heap.size ≤ q_ := fun q_ h => Nat.le_trans K0.size (hg_52 q_ h)
            clear hg_52
            replace hT := hT.keepO K_53 (fun q_ hq_ eq_ => htss (by simp only [one] at eq_; rw [← eq_]; exact hq_))
            replace ho_5 := ho_5.keepO K_53 (fun q_ hq_ eq_ => pr_6 (by simp only [one] at eq_; rw [← eq_]; exact hq_))
            replace hbt := hbt.keep K_53 (by simp only [one]; omega)
            replace K0 := K0.trans K_53 (fun x _ hx => by simp only [one] at hx; subst hx; exact (Or.inl rfl))
            replace hB := hB_50
            clear hB_50 ho
            refine RL.nil ?_
            refine Run.seq ?_
            have hdln := delI_len (ts.map TrS.ptr) k
            refine Run.region ?_
            refine RL.val (x_moveP rfl) ?_
            refine RL.val (x_moveP rfl) ?_
            refine RL.val (x_nilCheck rfl) ?_
            refine RL.val (x_fld (o' := 3) Try.underlying105 rfl ty103 rfl rfl rfl) ?_
            refine RL.val (x_ld (v := .slice (a_47) ((delI (ts.map TrS.ptr) k).length) (c_48)) ty103 rfl rfl (hB.cl.field (i := 3) rfl)) ?_
            refine RL.val (x_moveI rfl) ?_
            refine RL.val (x_moveI rfl) ?_
            refine RL.val (x_moveSl rfl) ?_
            refine RL.val (x_build (cells := #[.int .i64 (part), .int .i64 (to), .slice (am) (((withI keys i).map newR).length) (cm)]) (by kernel_rfl)) ?_
            refine RL.st rfl <| St1.box (v := .agg #[.int .i64 (part), .int .i64 (to), .slice (am) (((withI keys i).map newR).length) (cm)]) rfl ?_
            intro b_61 w_62 hl_65 hb_64 K_63
            replace hb_64 : Blk w_62 b_61 [.int .i64 (part), .int .i64 (to), .slice (am) (((withI keys i).map newR).length) (cm)] 109 := hb_64
            have ne_66 : s < b_61 := Nat.lt_of_lt_of_le hB.lt hl_65
            have ne_67 : t.blk < b_61 := Nat.lt_of_lt_of_le hbt.lt hl_65
            have pr_68 : ¬ trsS ts b_61 := fun h => absurd (hT.own_lt _ h) (by omega)
            have pr_69 : ¬ own am b_61 := fun h => absurd (ho_5.own_lt _ h) (by omega)
            have pr_70 : ¬ own a_47 b_61 := fun h => absurd (ho_51.own_lt _ h) (by omega)
            have : w.heap.size ≤ b_61 := Nat.le_trans K0.size hl_65
            clear hl_65
            replace hB := hB.ext K_63
            replace hT := hT.ext K_63
            replace ho_5 := ho_5.ext K_63
            replace hbt := hbt.ext K_63
            replace ho_51 := ho_51.ext K_63
            replace K0 := K0.ext K_63
            refine RL.st rfl <| St1.buildSlice ([some (⟨b_61, 0, none⟩ : Addr)] : List (Option Addr)) Try.underlying103 ty110 rfl rfl (by first | decide | (simp [Enc.size])) ?_
            intro b_71 w_72 hl_75 ho_74 K_73
            have pr_76 : ¬ own (some ⟨b_71, 0, none⟩) s := notNew (ge_new hl_75) hB.lt
            have pr_77 : ∀ q_, own (some ⟨b_71, 0, none⟩) q_ → ¬ trsS ts q_ := apartNew (ge_new hl_75) hT.own_lt
            have pr_78 : ∀ q_, own (some ⟨b_71, 0, none⟩) q_ → ¬ own am q_ := apartNew (ge_new hl_75) ho_5.own_lt
            have pr_79 : ¬ own (some ⟨b_71, 0, none⟩) t.blk := notNew (ge_new hl_75) hbt.lt
            have pr_80 : ∀ q_, own (some ⟨b_71, 0, none⟩) q_ → ¬ own a_47 q_ := apartNew (ge_new hl_75) ho_51.own_lt
            have pr_81 : ¬ own (some ⟨b_71, 0, none⟩) b_61 := notNew (ge_new hl_75) hb_64.lt
            have pg_82 : ∀ q_, own (some ⟨b_71, 0, none⟩) q_ → q_ < w.heap.size → (sndS s al ts) q_ := fun q_ h hlt => absurd (Nat.le_trans K0.size ((ge_new hl_75) q_ h)) (by omega)
            have pw_83 : ∀ q_, own (some ⟨b_71, 0, none⟩) q_ → w.heap.size ≤ q_ := fun q_ h => Nat.le_trans K0.size ((ge_new hl_75) q_ h)
            clear hl_75
            replace hB := hB.ext K_73
            replace hT := hT.ext K_73
            replace ho_5 := ho_5.ext K_73
            replace hbt := hbt.ext K_73
            replace ho_51 := ho_51.ext K_73
            replace hb_64 := hb_64.ext K_73
            replace K0 := K0.ext K_73
            refine RL.st rfl <| St1.append (xs := delI (ts.map TrS.ptr) k) (ys := ([some (⟨b_61, 0, none⟩ : Addr)] : List (Option Addr))) Try.underlying103 ty110 rfl rfl rfl ho_51 ho_74.sl (by first | omega | (simp only [lr]; omega)) (by decide) ?_
            intro a_84 c_85 w_86 ho_87 K_88 hm_89 hrm_90
            have pr_91 : ¬ own a_84 s := hm_89.not pr_54 hB.lt
            have pr_92 : ∀ q_, own a_84 q_ → ¬ trsS ts q_ := hm_89.apart pr_56 hT.own_lt
            have pr_93 : ∀ q_, own a_84 q_ → ¬ own am q_ := hm_89.apart pr_57 ho_5.own_lt
            have pr_94 : ¬ own a_84 t.blk := hm_89.not pr_58 hbt.lt
            have pr_95 : ¬ own a_84 b_61 := hm_89.not pr_70 hb_64.lt
            have pr_96 : ∀ q_, own a_84 q_ → ¬ own (some ⟨b_71, 0, none⟩) q_ := hm_89.apart (fun q_ h1 h2 => pr_80 q_ h2 h1) ho_74.own_lt
            have pg_97 : ∀ q_, own a_84 q_ → q_ < w.heap.size → (sndS s al ts) q_ := hm_89.inS pg_59 K0.size
            have pw_98 : ∀ q_, own a_84 q_ → w.heap.size ≤ q_ := hm_89.ge pw_60 K0.size
            replace hB := hB.keep K_88 pr_54
            replace hT := hT.keepO K_88 (fun q_ h1 h2 => pr_56 q_ h2 h1)
            replace ho_5 := ho_5.keepO K_88 (fun q_ h1 h2 => pr_57 q_ h2 h1)
            replace hbt := hbt.keep K_88 pr_58
            replace hb_64 := hb_64.keep K_88 pr_70
            replace ho_74 := ho_74.keepO K_88 pr_80
            replace K0 := K0.trans K_88 (fun x hlt hx => pg_59 x hx hlt)
            clear hm_89
            clear hrm_90
            refine RL.val (x_nilCheck rfl) ?_
            refine RL.val (x_fld (o' := 3) Try.underlying105 rfl ty103 rfl rfl rfl) ?_
            refine RL.st rfl <| St1.store (v := .slice (a_84) (((delI (ts.map TrS.ptr) k) ++ ([some (⟨b_61, 0, none⟩ : Addr)] : List (Option Addr))).length) (c_85)) ty103 rfl rfl rfl (by simp [Value.cells, Value.oneCell']) hB (by simp) ?_
            intro w_99 hB_ K_100
            have hB' : Blk w_99 s [.int .i64 (self), .int .i64 (now), .int .i64 (req), .slice (a_84) (((delI (ts.map TrS.ptr) k) ++ ([some (⟨b_61, 0, none⟩ : Addr)] : List (Option Addr))).length) (c_85)] 105 := hB_
            clear hB_
            replace hT := hT.keepO K_100 (fun q_ hq_ eq_ => htss (by simp only [one] at eq_; rw [← eq_]; exact hq_))
            replace ho_5 := ho_5.keepO K_100 (fun q_ hq_ eq_ => pr_6 (by simp only [one] at eq_; rw [← eq_]; exact hq_))
            replace hbt := hbt.keep K_100 (by simp only [one]; omega)
            replace hb_64 := hb_64.keep K_100 (by simp only [one]; omega)
            replace ho_74 := ho_74.keepO K_100 (fun q_ hq_ eq_ => pr_76 (by simp only [one] at eq_; rw [← eq_]; exact hq_))
            replace ho_87 := ho_87.keepO K_100 (fun q_ hq_ eq_ => pr_91 (by simp only [one] at eq_; rw [← eq_]; exact hq_))
            replace K0 := K0.trans K_100 (fun x _ hx => by simp only [one] at hx; subst hx; exact (Or.inl rfl))
            replace hB := hB'
            clear hB'
            refine RL.nil ?_
            refine Run.seq ?_
            refine Run.region ?_
            refine RL.val (x_assignI rfl) ?_
            refine RL.nil ?_
            refine Run.ret1 (v := .int .i64 (0)) Try.func29 rfl rfl ?_
            have hR := (hT.openE hts).2.1
            have pr_101 : ¬ trsS (l1 ++ l2) s := fun h_ => htss ((trs_subR hts) _ h_)
            have pr_102 : ∀ q_, trsS (l1 ++ l2) q_ → ¬ own am q_ := fun q_ h_ => (fun q_ h1 h2 => pr_8 q_ h2 h1) q_ ((trs_subR hts) q_ h_)
            have pr_103 : ¬ trsS (l1 ++ l2) b_61 := fun h_ => pr_68 ((trs_subR hts) _ h_)
            have pr_104 : ∀ q_, trsS (l1 ++ l2) q_ → ¬ own (some ⟨b_71, 0, none⟩) q_ := fun q_ h_ => (fun q_ h1 h2 => pr_77 q_ h2 h1) q_ ((trs_subR hts) q_ h_)
            have pr_105 : ∀ q_, trsS (l1 ++ l2) q_ → ¬ own a_84 q_ := fun q_ h_ => (fun q_ h1 h2 => pr_92 q_ h2 h1) q_ ((trs_subR hts) q_ h_)
            clear hT hbt
            rw [rdel_ptr hts hl1] at ho_87 hB
            rw [rsnoc_ptr (l1 ++ l2) b_61 part to am cm ((withI keys i).map newR)] at ho_87 hB
            have hT' : TrsAt 109 116 w_99 ((l1 ++ l2) ++ [(⟨b_61, part, to, am, cm, ((withI keys i).map newR)⟩ : TrS RKey)]) := TrsAt.snoc ⟨hb_64, ho_5, pr_69⟩ hR (fun q_ h1 h2 => h2.elim (fun e_ => pr_103 (show trsS (l1 ++ l2) b_61 from (show q_ = b_61 from e_) ▸ h1)) (fun y_ => pr_102 q_ h1 y_))
            have pr_106 : ¬ trsS ((l1 ++ l2) ++ [(⟨b_61, part, to, am, cm, ((withI keys i).map newR)⟩ : TrS RKey)]) s := fun x_ => (trs_end _ x_).elim (fun e_ => absurd e_ (by omega)) (fun y_ => y_.elim pr_6 (fun y_ => pr_101 y_))
            have pr_107 : ∀ q_, trsS ((l1 ++ l2) ++ [(⟨b_61, part, to, am, cm, ((withI keys i).map newR)⟩ : TrS RKey)]) q_ → ¬ own (some ⟨b_71, 0, none⟩) q_ := fun q_ x_ z_ => (trs_end _ x_).elim (fun e_ => pr_81 (show own (some ⟨b_71, 0, none⟩) b_61 from e_ ▸ z_)) (fun y_ => y_.elim (fun y_ => (fun q_ h1 h2 => pr_78 q_ h2 h1) q_ y_ z_) (fun y_ => (fun y_ => pr_104 q_ y_ z_) y_))
            have pr_108 : ∀ q_, trsS ((l1 ++ l2) ++ [(⟨b_61, part, to, am, cm, ((withI keys i).map newR)⟩ : TrS RKey)]) q_ → ¬ own a_84 q_ := fun q_ x_ z_ => (trs_end _ x_).elim (fun e_ => pr_95 (show own a_84 b_61 from e_ ▸ z_)) (fun y_ => y_.elim (fun y_ => (fun q_ h1 h2 => pr_93 q_ h2 h1) q_ y_ z_) (fun y_ => (fun y_ => pr_105 q_ y_ z_) y_))
            have pg_109 : ∀ q_, trsS ((l1 ++ l2) ++ [(⟨b_61, part, to, am, cm, ((withI keys i).map newR)⟩ : TrS RKey)]) q_ → q_ < w.heap.size → (sndS s al ts) q_ := fun q_ x_ hl_ => (trs_end _ x_).elim (fun e_ => absurd hl_ (by omega)) (fun y_ => y_.elim (fun y_ => pr_9 q_ y_ hl_) (fun y_ => (fun y_ => (fun q_ h_ hl_ => (fun q_ h_ _ => Or.inr (Or.inr h_)) q_ ((trs_subR hts) q_ h_) hl_) q_ y_ hl_) y_))
            exact ⟨_, rfl, a_84, c_85, ((l1 ++ l2) ++ [(⟨b_61, part, to, am, cm, ((withI keys i).map newR)⟩ : TrS RKey)]), by rw [(rbeg_in (nl := newI (uniq (sortN keys))) (by omega) (nokey_no hno (by omega)) (by rw [(left_in hfs).1, left_len]; omega) hfx hts hl1).1], ⟨hB, ho_87, hT', pr_91, pr_106, pr_108, (hok.rdel hts).rsnoc (rnewI_ok hn0.1 (hcK (nokey_no hno (by omega))) hkyl (by omega)), rok_snoc (rok_del hrok hts) (rok_new _)⟩, by rw [(rbeg_in (nl := newI (uniq (sortN keys))) (by omega) (nokey_no hno (by omega)) (by rw [(left_in hfs).1, left_len]; omega) hfx hts hl1).2, List.map_append, ← withI_end (show i = keys.length by omega), ← rk_new]; rfl, rsnd_moved pg_97 pg_109, K0⟩
          · try simp only [br] at hc56
            exact absurd hc56 (by omega)
      · obtain ⟨hk, hfs, hfx⟩ := rtr_no (ts := ts) (part := part) (to := to) (by omega)
        refine Run.region ?_
        refine RL.val (x_moveI rfl) ?_
        refine RL.val (litF (x_geI rfl rfl) (by simpa using hh)) ?_
        refine RL.val (x_moveB rfl) ?_
        refine RL.guardF (wantedT0 rfl rfl rfl rfl) ?_
        refine RL.guardF (wantedT0 rfl rfl rfl rfl) ?_
        refine RL.guardF (wantedT0 rfl rfl rfl rfl) ?_
        refine RL.guardF (wantedT0 rfl rfl rfl rfl) ?_
        refine RL.guardF (wantedT0 rfl rfl rfl rfl) ?_
        refine RL.guardF (wantedT0 rfl rfl rfl rfl) ?_
        refine RL.guardF (wantedT0 rfl rfl rfl rfl) ?_
        refine RL.guardF (wantedT0 rfl rfl rfl rfl) ?_
        refine RL.guardF (wantedT0 rfl rfl rfl rfl) ?_
        refine RL.guardF (wantedT0 rfl rfl rfl rfl) ?_
        refine RL.guardF (wantedT0 rfl rfl rfl rfl) ?_
        refine RL.guardF (wantedT0 rfl rfl rfl rfl) ?_
        refine RL.val (x_and (b := false) (e := false) rfl rfl rfl) ?_
        refine RL.nil ?_
        refine Run.condF rfl ?_
        refine Run.skip ?_
        refine Run.seq ?_
        refine Run.seq ?_
        refine Run.region ?_
        refine RL.val (x_moveI rfl) ?_
        refine RL.val (x_geI rfl rfl) ?_
        refine RL.nil ?_
        refine Run.cond rfl (fun hc56 => ?_) (fun hc56 => ?_)
        · try simp only [br] at hc56
          exact absurd hc56 (by omega)
        · try simp only [br] at hc56
          refine Run.skip ?_
          refine Run.seq ?_
          refine Run.region ?_
          refine RL.val (x_moveP rfl) ?_
          refine RL.val (x_moveP rfl) ?_
          refine RL.val (x_nilCheck rfl) ?_
          refine RL.val (x_fld (o' := 3) Try.underlying105 rfl ty103 rfl rfl rfl) ?_
          refine RL.val (x_ld (v := .slice (al) ((ts.map TrS.ptr).length) (cl)) ty103 rfl rfl (hB.cl.field (i := 3) rfl)) ?_
          refine RL.val (x_moveI rfl) ?_
          refine RL.val (x_moveI rfl) ?_
          refine RL.val (x_moveSl rfl) ?_
          refine RL.val (x_build (cells := #[.int .i64 (part), .int .i64 (to), .slice (am) (((withI keys i).map newR).length) (cm)]) (by kernel_rfl)) ?_
          refine RL.st rfl <| St1.box (v := .agg #[.int .i64 (part), .int .i64 (to), .slice (am) (((withI keys i).map newR).length) (cm)]) rfl ?_
          intro b_110 w_111 hl_114 hb_113 K_112
          replace hb_113 : Blk w_111 b_110 [.int .i64 (part), .int .i64 (to), .slice (am) (((withI keys i).map newR).length) (cm)] 109 := hb_113
          have ne_115 : s < b_110 := Nat.lt_of_lt_of_le hB.lt hl_114
          have pr_116 : ¬ own al b_110 := fun h => absurd (ho.own_lt _ h) (by omega)
          have pr_117 : ¬ trsS ts b_110 := fun h => absurd (hT.own_lt _ h) (by omega)
          have pr_118 : ¬ own am b_110 := fun h => absurd (ho_5.own_lt _ h) (by omega)
          have : w.heap.size ≤ b_110 := Nat.le_trans K0.size hl_114
          clear hl_114
          replace hB := hB.ext K_112
          replace ho := ho.ext K_112
          replace hT := hT.ext K_112
          replace ho_5 := ho_5.ext K_112
          replace K0 := K0.ext K_112
          refine RL.st rfl <| St1.buildSlice ([some (⟨b_110, 0, none⟩ : Addr)] : List (Option Addr)) Try.underlying103 ty110 rfl rfl (by first | decide | (simp [Enc.size])) ?_
          intro b_119 w_120 hl_123 ho_122 K_121
          have pr_124 : ¬ own (some ⟨b_119, 0, none⟩) s := notNew (ge_new hl_123) hB.lt
          have pr_125 : ∀ q_, own (some ⟨b_119, 0, none⟩) q_ → ¬ own al q_ := apartNew (ge_new hl_123) ho.own_lt
          have pr_126 : ∀ q_, own (some ⟨b_119, 0, none⟩) q_ → ¬ trsS ts q_ := apartNew (ge_new hl_123) hT.own_lt
          have pr_127 : ∀ q_, own (some ⟨b_119, 0, none⟩) q_ → ¬ own am q_ := apartNew (ge_new hl_123) ho_5.own_lt
          have pr_128 : ¬ own (some ⟨b_119, 0, none⟩) b_110 := notNew (ge_new hl_123) hb_113.lt
          have pg_129 : ∀ q_, own (some ⟨b_119, 0, none⟩) q_ → q_ < w.heap.size → (sndS s al ts) q_ := fun q_ h hlt => absurd (Nat.le_trans K0.size ((ge_new hl_123) q_ h)) (by omega)
          have pw_130 : ∀ q_, own (some ⟨b_119, 0, none⟩) q_ → w.heap.size ≤ q_ := fun q_ h => Nat.le_trans K0.size ((ge_new hl_123) q_ h)
          clear hl_123
          replace hB := hB.ext K_121
          replace ho := ho.ext K_121
          replace hT := hT.ext K_121
          replace ho_5 := ho_5.ext K_121
          replace hb_113 := hb_113.ext K_121
          replace K0 := K0.ext K_121
          refine RL.st rfl <| St1.append (xs := ts.map TrS.ptr) (ys := ([some (⟨b_110, 0, none⟩ : Addr)] : List (Option Addr))) Try.underlying103 ty110 rfl rfl rfl ho ho_122.sl (by first | omega | (simp only [lr]; omega)) (by decide) ?_
          intro a_131 c_132 w_133 ho_134 K_135 hm_136 hrm_137
          have pr_138 : ¬ own a_131 s := hm_136.not hos hB.lt
          have pr_139 : ∀ q_, own a_131 q_ → ¬ trsS ts q_ := hm_136.apart (fun q_ h1 h2 => hto q_ h2 h1) hT.own_lt
          have pr_140 : ∀ q_, own a_131 q_ → ¬ own am q_ := hm_136.apart (fun q_ h1 h2 => pr_7 q_ h2 h1) ho_5.own_lt
          have pr_141 : ¬ own a_131 b_110 := hm_136.not pr_116 hb_113.lt
          have pr_142 : ∀ q_, own a_131 q_ → ¬ own (some ⟨b_119, 0, none⟩) q_ := hm_136.apart (fun q_ h1 h2 => pr_125 q_ h2 h1) ho_122.own_lt
          have pg_143 : ∀ q_, own a_131 q_ → q_ < w.heap.size → (sndS s al ts) q_ := hm_136.inS (fun q_ h_ _ => Or.inr (Or.inl h_)) K0.size
          replace hB := hB.keep K_135 hos
          replace hT := hT.keepO K_135 hto
          replace ho_5 := ho_5.keepO K_135 pr_7
          replace hb_113 := hb_113.keep K_135 pr_116
          replace ho_122 := ho_122.keepO K_135 pr_125
          replace K0 := K0.trans K_135 (fun x hlt hx => (fun q_ h_ _ => Or.inr (Or.inl h_)) x hx hlt)
          clear hm_136
          clear hrm_137
          refine RL.val (x_nilCheck rfl) ?_
          refine RL.val (x_fld (o' := 3) Try.underlying105 rfl ty103 rfl rfl rfl) ?_
          refine RL.st rfl <| St1.store (v := .slice (a_131) (((ts.map TrS.ptr) ++ ([some (⟨b_110, 0, none⟩ : Addr)] : List (Option Addr))).length) (c_132)) ty103 rfl rfl rfl (by simp [Value.cells, Value.oneCell']) hB (by simp) ?_
          intro w_144 hB_ K_145
          have hB' : Blk w_144 s [.int .i64 (self), .int .i64 (now), .int .i64 (req), .slice (a_131) (((ts.map TrS.ptr) ++ ([some (⟨b_110, 0, none⟩ : Addr)] : List (Option Addr))).length) (c_132)] 105 := hB_
          clear hB_
          replace hT := hT.keepO K_145 (fun q_ hq_ eq_ => htss (by simp only [one] at eq_; rw [← eq_]; exact hq_))
          replace ho_5 := ho_5.keepO K_145 (fun q_ hq_ eq_ => pr_6 (by simp only [one] at eq_; rw [← eq_]; exact hq_))
          replace hb_113 := hb_113.keep K_145 (by simp only [one]; omega)
          replace ho_122 := ho_122.keepO K_145 (fun q_ hq_ eq_ => pr_124 (by simp only [one] at eq_; rw [← eq_]; exact hq_))
          replace ho_134 := ho_134.keepO K_145 (fun q_ hq_ eq_ => pr_138 (by simp only [one] at eq_; rw [← eq_]; exact hq_))
          replace K0 := K0.trans K_145 (fun x _ hx => by simp only [one] at hx; subst hx; exact (Or.inl rfl))
          replace hB := hB'
          clear hB'
          refine RL.nil ?_
          refine Run.seq ?_
          refine Run.region ?_
          refine RL.val (x_assignI rfl) ?_
          refine RL.nil ?_
          refine Run.ret1 (v := .int .i64 (0)) Try.func29 rfl rfl ?_
          rw [rsnoc_ptr ts b_110 part to am cm ((withI keys i).map newR)] at ho_134 hB
          have hT' : TrsAt 109 116 w_144 (ts ++ [(⟨b_110, part, to, am, cm, ((withI keys i).map newR)⟩ : TrS RKey)]) := TrsAt.snoc ⟨hb_113, ho_5, pr_118⟩ hT (fun q_ h1 h2 => h2.elim (fun e_ => pr_117 (show trsS ts b_110 from (show q_ = b_110 from e_) ▸ h1)) (fun y_ => (fun q_ h1 h2 => pr_8 q_ h2 h1) q_ h1 y_))
          have pr_146 : ¬ trsS (ts ++ [(⟨b_110, part, to, am, cm, ((withI keys i).map newR)⟩ : TrS RKey)]) s := fun x_ => (trs_end _ x_).elim (fun e_ => absurd e_ (by omega)) (fun y_ => y_.elim pr_6 (fun y_ => htss y_))
          have pr_147 : ∀ q_, trsS (ts ++ [(⟨b_110, part, to, am, cm, ((withI keys i).map newR)⟩ : TrS RKey)]) q_ → ¬ own (some ⟨b_119, 0, none⟩) q_ := fun q_ x_ z_ => (trs_end _ x_).elim (fun e_ => pr_128 (show own (some ⟨b_119, 0, none⟩) b_110 from e_ ▸ z_)) (fun y_ => y_.elim (fun y_ => (fun q_ h1 h2 => pr_127 q_ h2 h1) q_ y_ z_) (fun y_ => (fun y_ => (fun q_ h1 h2 => pr_126 q_ h2 h1) q_ y_ z_) y_))
          have pr_148 : ∀ q_, trsS (ts ++ [(⟨b_110, part, to, am, cm, ((withI keys i).map newR)⟩ : TrS RKey)]) q_ → ¬ own a_131 q_ := fun q_ x_ z_ => (trs_end _ x_).elim (fun e_ => pr_141 (show own a_131 b_110 from e_ ▸ z_)) (fun y_ => y_.elim (fun y_ => (fun q_ h1 h2 => pr_140 q_ h2 h1) q_ y_ z_) (fun y_ => (fun y_ => (fun q_ h1 h2 => pr_139 q_ h2 h1) q_ y_ z_) y_))
          have pg_149 : ∀ q_, trsS (ts ++ [(⟨b_110, part, to, am, cm, ((withI keys i).map newR)⟩ : TrS RKey)]) q_ → q_ < w.heap.size → (sndS s al ts) q_ := fun q_ x_ hl_ => (trs_end _ x_).elim (fun e_ => absurd hl_ (by omega)) (fun y_ => y_.elim (fun y_ => pr_9 q_ y_ hl_) (fun y_ => (fun y_ => (fun q_ h_ _ => Or.inr (Or.inr h_)) q_ y_ hl_) y_))
          exact ⟨_, rfl, a_131, c_132, (ts ++ [(⟨b_110, part, to, am, cm, ((withI keys i).map newR)⟩ : TrS RKey)]), by rw [(beg_new (nl := newI (uniq (sortN keys))) (by omega) (nokey_no hno (by omega)) (left_no hfs).1 hfx).1], ⟨hB, ho_134, hT', pr_138, pr_146, pr_148, hok.rsnoc (rnewI_ok hn0.1 (hcK (nokey_no hno (by omega))) hkyl (by omega)), rok_snoc hrok (rok_new _)⟩, by rw [(beg_new (nl := newI (uniq (sortN keys))) (by omega) (nokey_no hno (by omega)) (left_no hfs).1 hfx).2, List.map_append, ← withI_end (show i = keys.length by omega), ← rk_new]; rfl, rsnd_moved pg_143 pg_149, K0⟩

set_option maxRecDepth 100000 in
set_option maxHeartbeats 4000000 in
theorem rcancel_ (s : Nat) (al : Option Addr) (cl : Nat) (self now req : Int) (ts : List (TrS RKey)) (part to : Int) (w : World) (hD : RSndO w s al cl self now req ts) (hL : ts.length ≤ 1000) :
    Calls Try.prog 30 #[.pointer (some ⟨s, 0, none⟩), .int .i64 (part), .int .i64 (to)] w (Ret (fun v w' => ∃ al' cl' ts', v = .int .i64 (canE self (ts.map TrS.rp) part to) ∧ RSndO w' s al' cl' self now req ts' ∧ ts'.map TrS.rp = canL self (ts.map TrS.rp) part to ∧ (∀ q, sndS s al' ts' q → q < w.heap.size → sndS s al ts q) ∧ Keeps (sndS s al ts) w w')) := by
  obtain ⟨hB, ho, hT, hos, htss, hto, hok, hrok⟩ := hD
  have hlp := rptr_len ts
  have hs0 := hok.self0
  have hn0 := hok.now0
  refine calls_run (n := 36) Try.func30 rfl rfl rfl ?_
  refine Run.seq ?_
  refine Run.region ?_
  refine RL.val (x_assignI rfl) ?_
  refine RL.nil ?_
  refine Run.seq ?_
  refine Run.seq ?_
  refine Run.region ?_
  refine RL.val (x_moveP rfl) ?_
  refine RL.val (x_moveI rfl) ?_
  refine RL.val (x_moveI rfl) ?_
  refine RL.st rfl <| St1.call (vals := [.pointer (some ⟨s, 0, none⟩), .int .i64 (part), .int .i64 (to)]) en55 rfl (rmay_ s al cl self now req ts part to _ (⟨hB, ho, hT, hos, htss, hto, hok, hrok⟩ : RSndO _ s al cl self now req ts) hL) ?_
  rintro _ w_1 ⟨rfl, K_2⟩
  replace hB := hB.ext K_2
  replace ho := ho.ext K_2
  replace hT := hT.ext K_2
  have K0 := (K_2 : Ext w _).to (S := (sndS s al ts))
  refine RL.val (x_not rfl) ?_
  refine RL.nil ?_
  refine Run.cond rfl (fun hc12 => ?_) (fun hc12 => ?_)
  · try simp only [br] at hc12
    refine Run.seq ?_
    refine Run.region ?_
    refine RL.val (x_assignI rfl) ?_
    refine RL.nil ?_
    refine Run.ret1 (v := .int .i64 (1)) Try.func30 rfl rfl ?_
    exact ⟨_, rfl, al, cl, ts, by rw [(can_may1 hc12).1], ⟨hB, ho, hT, hos, htss, hto, hok, hrok⟩, by rw [(can_may1 hc12).2], fun _ h _ => h, K0⟩
  · try simp only [br] at hc12
    refine Run.skip ?_
    refine Run.seq ?_
    refine Run.region ?_
    refine RL.val (x_moveP rfl) ?_
    refine RL.val (x_moveI rfl) ?_
    refine RL.val (x_moveI rfl) ?_
    refine RL.st rfl <| St1.call (vals := [.pointer (some ⟨s, 0, none⟩), .int .i64 (part), .int .i64 (to)]) en57 rfl (rfind_ s al cl self now req ts part to _ (⟨hB, ho, hT, hos, htss, hto, hok, hrok⟩ : RSndO _ s al cl self now req ts) hL) ?_
    rintro _ w_3 ⟨rfl, K_4⟩
    replace hB := hB.ext K_4
    replace ho := ho.ext K_4
    replace hT := hT.ext K_4
    replace K0 := K0.ext K_4
    refine RL.val (x_assignI rfl) ?_
    refine RL.nil ?_
    refine Run.seq ?_
    refine Run.seq ?_
    by_cases hh : 0 ≤ findI (sameT part to) (ts.map TrS.rp)
    · obtain ⟨k, t, l1, l2, hk, hkl, hts, hl1, hti, hpt, hst, hfs, hfx⟩ := rtr_yes (ts := ts) (part := part) (to := to) (by omega)
      rw [hk]
      have hbt := (hT.all t (rmem_tr hts)).blk
      have hLt := hok.rat (rmem_tr hts)
      have ne_5 : t.blk ≠ s := fun e_ => htss (e_ ▸ trs_subB hts)
      refine Run.region ?_
      refine RL.val (x_moveI rfl) ?_
      refine RL.val (x_ltI rfl rfl) ?_
      refine RL.val (x_moveB rfl) ?_
      refine RL.gval (wantedF rfl rfl rfl rfl) (fun hg => (x_moveP rfl)) ?_
      refine RL.gval (wantedF rfl rfl rfl rfl) (fun hg => (x_nilCheck (gvr hg))) ?_
      refine RL.gval (wantedF rfl rfl rfl rfl) (fun hg => (x_fld (o' := 3) Try.underlying105 rfl ty103 rfl (gvr hg) rfl)) ?_
      refine RL.gval (wantedF rfl rfl rfl rfl) (fun hg => (x_ld (v := .slice (al) ((ts.map TrS.ptr).length) (cl)) ty103 (gvr hg) rfl (hB.cl.field (i := 3) rfl))) ?_
      refine RL.gval (wantedF rfl rfl rfl rfl) (fun hg => (x_moveI rfl)) ?_
      obtain ⟨b_6, o_7, x_10, hx_11, ha_8, hc_9⟩ := ho.sl.el (i := k) (by first | omega | (simp only [List.length_set]; omega))
      obtain rfl : (some (⟨t.blk, 0, none⟩ : Addr)) = x_10 := Option.some.inj (hpt.symm.trans hx_11)
      refine RL.gval (wantedF rfl rfl rfl rfl) (fun hg => (x_idxN Try.underlying103 ty110 (gvr hg) (gvr hg) ha_8 (by first | omega | (simp only [List.length_set]; omega)))) ?_
      refine RL.gval (wantedF rfl rfl rfl rfl) (fun hg => (x_ldV (v := .pointer (some ⟨t.blk, 0, none⟩)) (y := (some (⟨t.blk, 0, none⟩ : Addr))) ty110 (gvr hg) hc_9 rfl)) ?_
      refine RL.gval (wantedF rfl rfl rfl rfl) (fun hg => (x_nilCheck (gvr hg))) ?_
      refine RL.gval (wantedF rfl rfl rfl rfl) (fun hg => (x_fld (o' := 2) Try.underlying109 rfl ty106 rfl (gvr hg) rfl)) ?_
      refine RL.gval (wantedF rfl rfl rfl rfl) (fun hg => (x_ld (v := .slice (t.a) (t.left.length) (t.cap)) ty106 (gvr hg) rfl (hbt.cl.field (i := 2) rfl))) ?_
      refine RL.gval (wantedF rfl rfl rfl rfl) (fun hg => (x_lenSl Try.underlying106 (gvr hg))) ?_
      refine RL.gval (wantedF rfl rfl rfl rfl) (fun hg => (x_eqI (gvr hg) rfl)) ?_
      refine RL.val (x_or rfl rfl rfl) ?_
      refine RL.nil ?_
      refine Run.cond rfl (fun hc32 => ?_) (fun hc32 => ?_)
      · try simp only [br] at hc32
        refine Run.seq ?_
        refine Run.region ?_
        refine RL.val (x_assignI rfl) ?_
        refine RL.nil ?_
        refine Run.ret1 (v := .int .i64 (180)) Try.func30 rfl rfl ?_
        exact ⟨_, rfl, al, cl, ts, by rw [(can_none (by omega) (show leftN (ts.map TrS.rp) part to = 0 by rw [(left_in hfs).1, left_len]; omega)).1], ⟨hB, ho, hT, hos, htss, hto, hok, hrok⟩, by rw [(can_none (by omega) (show leftN (ts.map TrS.rp) part to = 0 by rw [(left_in hfs).1, left_len]; omega)).2], fun _ h _ => h, K0⟩
      · try simp only [br] at hc32
        refine Run.skip ?_
        refine Run.seq ?_
        refine Run.region ?_
        refine RL.val (x_moveP rfl) ?_
        refine RL.val (x_moveI rfl) ?_
        refine RL.st rfl <| St1.call (vals := [.pointer (some ⟨s, 0, none⟩), .int .i64 (((k : Nat) : Int))]) en58 rfl (without_ s _ _ _ _ _ _ k _ hB ho hos (by omega) (by omega)) ?_
        rintro _ w_14 ⟨a_12, c_13, rfl, hB_15, ho_16, hg_17, K_18⟩
        have pr_19 : ¬ own a_12 s := notNew hg_17 hB.lt
        have pr_20 : ∀ q_, own a_12 q_ → ¬ own al q_ := apartNew hg_17 ho.own_lt
        have pr_21 : ∀ q_, own a_12 q_ → ¬ trsS ts q_ := apartNew hg_17 hT.own_lt
        have pr_22 : ¬ own a_12 t.blk := notNew hg_17 hbt.lt
        have pg_23 : ∀ q_, own a_12 q_ → q_ < w.heap.size → (sndS s al ts) q_ := fun q_ h hlt => absurd (Nat.le_trans K0.size (hg_17 q_ h)) (by omega)
        have pw_24 : ∀ q_, own a_12 q_ → w.heap.size ≤ q_ := fun q_ h => Nat.le_trans K0.size (hg_17 q_ h)
        clear hg_17
        replace hT := hT.keepO K_18 (fun q_ hq_ eq_ => htss (by simp only [one] at eq_; rw [← eq_]; exact hq_))
        replace hbt := hbt.keep K_18 (by simp only [one]; omega)
        replace K0 := K0.trans K_18 (fun x _ hx => by simp only [one] at hx; subst hx; exact (Or.inl rfl))
        replace hB := hB_15
        clear hB_15 ho
        refine RL.nil ?_
        refine Run.seq ?_
        refine Run.region ?_
        refine RL.val (x_assignI rfl) ?_
        refine RL.nil ?_
        refine Run.ret1 (v := .int .i64 (0)) Try.func30 rfl rfl ?_
        have hR := (hT.openE hts).2.1
        have pr_25 : ¬ trsS (l1 ++ l2) s := fun h_ => htss ((trs_subR hts) _ h_)
        have pr_26 : ∀ q_, trsS (l1 ++ l2) q_ → ¬ own a_12 q_ := fun q_ h_ => (fun q_ h1 h2 => pr_21 q_ h2 h1) q_ ((trs_subR hts) q_ h_)
        clear hT hbt
        rw [rdel_ptr hts hl1] at ho_16 hB
        exact ⟨_, rfl, a_12, c_13, l1 ++ l2, by rw [(rcan_in (by omega) (show leftN (ts.map TrS.rp) part to ≠ 0 by rw [(left_in hfs).1, left_len]; omega) hfx hts hl1).1], ⟨hB, ho_16, hR, pr_19, pr_25, pr_26, hok.rdel hts, rok_del hrok hts⟩, by rw [(rcan_in (by omega) (show leftN (ts.map TrS.rp) part to ≠ 0 by rw [(left_in hfs).1, left_len]; omega) hfx hts hl1).2], rsnd_moved pg_23 (fun q_ h_ hl_ => (fun q_ h_ _ => Or.inr (Or.inr h_)) q_ ((trs_subR hts) q_ h_) hl_), K0⟩
    · obtain ⟨hk, hfs, hfx⟩ := rtr_no (ts := ts) (part := part) (to := to) (by omega)
      refine Run.region ?_
      refine RL.val (x_moveI rfl) ?_
      refine RL.val (litT (x_ltI rfl rfl) (by simpa using hh)) ?_
      refine RL.val (x_moveB rfl) ?_
      refine RL.guardF (wantedF0 rfl rfl rfl rfl) ?_
      refine RL.guardF (wantedF0 rfl rfl rfl rfl) ?_
      refine RL.guardF (wantedF0 rfl rfl rfl rfl) ?_
      refine RL.guardF (wantedF0 rfl rfl rfl rfl) ?_
      refine RL.guardF (wantedF0 rfl rfl rfl rfl) ?_
      refine RL.guardF (wantedF0 rfl rfl rfl rfl) ?_
      refine RL.guardF (wantedF0 rfl rfl rfl rfl) ?_
      refine RL.guardF (wantedF0 rfl rfl rfl rfl) ?_
      refine RL.guardF (wantedF0 rfl rfl rfl rfl) ?_
      refine RL.guardF (wantedF0 rfl rfl rfl rfl) ?_
      refine RL.guardF (wantedF0 rfl rfl rfl rfl) ?_
      refine RL.guardF (wantedF0 rfl rfl rfl rfl) ?_
      refine RL.val (x_or (b := true) (e := false) rfl rfl rfl) ?_
      refine RL.nil ?_
      refine Run.condT rfl ?_
      refine Run.seq ?_
      refine Run.region ?_
      refine RL.val (x_assignI rfl) ?_
      refine RL.nil ?_
      refine Run.ret1 (v := .int .i64 (180)) Try.func30 rfl rfl ?_
      exact ⟨_, rfl, al, cl, ts, by rw [(can_none (by omega) (left_no hfs).1).1], ⟨hB, ho, hT, hos, htss, hto, hok, hrok⟩, by rw [(can_none (by omega) (left_no hfs).1).2], fun _ h _ => h, K0⟩

set_option maxRecDepth 100000 in
set_option maxHeartbeats 4000000 in
theorem rpass_ (s : Nat) (self now req tm : Int) (al : Option Addr) (n cl : Nat) (w : World) (hB : Blk w s [.int .i64 self, .int .i64 now, .int .i64 req, .slice al n cl] 105) :
    Calls Try.prog 61 #[.pointer (some ⟨s, 0, none⟩), .int .i64 (tm)] w (Ret (fun v w' => v = .tuple #[] ∧ Blk w' s [.int .i64 self, .int .i64 (max now tm), .int .i64 req, .slice al n cl] 105 ∧ Keeps (one s) w w')) := by
  refine calls_run (n := 14) Try.func61 rfl rfl rfl ?_
  refine Run.seq ?_
  refine Run.region ?_
  refine RL.val (x_moveI rfl) ?_
  refine RL.val (x_moveP rfl) ?_
  refine RL.val (x_nilCheck rfl) ?_
  refine RL.val (x_fld (o' := 1) Try.underlying105 rfl ty3 rfl rfl rfl) ?_
  refine RL.val (x_ld (v := .int .i64 (now)) ty3 rfl rfl (hB.cl.field (i := 1) rfl)) ?_
  refine RL.val (x_gtI rfl rfl) ?_
  refine RL.nil ?_
  refine Run.cond rfl (fun hc9 => ?_) (fun hc9 => ?_)
  · try simp only [br] at hc9
    refine Run.region ?_
    refine RL.val (x_moveP rfl) ?_
    refine RL.val (x_moveI rfl) ?_
    refine RL.val (x_nilCheck rfl) ?_
    refine RL.val (x_fld (o' := 1) Try.underlying105 rfl ty3 rfl rfl rfl) ?_
    refine RL.st rfl <| St1.store (v := .int .i64 (tm)) ty3 rfl rfl rfl (by simp [Value.cells, Value.oneCell']) hB (by simp) ?_
    intro w_1 hB_ K_2
    have hB' : Blk w_1 s [.int .i64 (self), .int .i64 (tm), .int .i64 (req), .slice (al) (n) (cl)] 105 := hB_
    clear hB_
    have K0 := (Keeps.refl (one s) w).trans K_2 (fun x _ hx => by simp only [one] at hx; subst hx; exact rfl)
    replace hB := hB'
    clear hB'
    refine RL.nil ?_
    refine Run.fin0 Try.func61 rfl ?_
    have e : max now tm = tm := by omega
    rw [e]
    exact ⟨_, rfl, rfl, hB, K0⟩
  · try simp only [br] at hc9
    refine Run.skip ?_
    refine Run.fin0 Try.func61 rfl ?_
    have e : max now tm = now := by omega
    rw [e]
    exact ⟨_, rfl, rfl, hB, Keeps.refl _ w⟩

set_option maxRecDepth 100000 in
set_option maxHeartbeats 4000000 in
theorem rtick_ (s : Nat) (al : Option Addr) (cl : Nat) (self now req : Int) (ts : List (TrS RKey)) (tm : Int) (w : World) (hD : RSndO w s al cl self now req ts) (hL : ts.length ≤ 1000) (ht : tm ≤ 9223372036854775807) (hr : 0 ≤ req ∧ req ≤ 1000000) :
    Calls Try.prog 32 #[.pointer (some ⟨s, 0, none⟩), .int .i64 (tm)] w (Ret (fun v w' => ∃ a' c' al' cl' ts', v = .slice a' (tickP self (max now tm) req (ts.map TrS.rp)).T.length c' ∧ OwnSl w' 46 a' c' (tickP self (max now tm) req (ts.map TrS.rp)).T ∧ (∀ q, own a' q → w.heap.size ≤ q) ∧ RSndO w' s al' cl' self (max now tm) (tickP self (max now tm) req (ts.map TrS.rp)).r ts' ∧ ts'.map TrS.rp = (tickP self (max now tm) req (ts.map TrS.rp)).L ∧ (∀ q, sndS s al' ts' q → q < w.heap.size → sndS s al ts q) ∧ (∀ q, own a' q → ¬ sndS s al' ts' q) ∧ Keeps (sndS s al ts) w w')) := by
  obtain ⟨hB, ho, hT, hos, htss, hto, hok, hrok⟩ := hD
  have hlp := rptr_len ts
  have hs0 := hok.self0
  have hn0 := hok.now0
  refine calls_run (n := 31) Try.func32 rfl rfl rfl ?_
  refine Run.seq ?_
  refine Run.region ?_
  refine RL.val (x_assignSl rfl) ?_
  refine RL.nil ?_
  refine Run.seq ?_
  refine Run.region ?_
  refine RL.val (x_moveP rfl) ?_
  refine RL.val (x_moveI rfl) ?_
  refine RL.st rfl <| St1.call (vals := [.pointer (some ⟨s, 0, none⟩), .int .i64 (tm)]) en61 rfl (rpass_ s _ _ _ tm _ _ _ _ hB) ?_
  rintro _ w_1 ⟨rfl, hB_2, K_3⟩
  replace ho := ho.keepO K_3 (fun q_ hq_ eq_ => hos (by simp only [one] at eq_; rw [← eq_]; exact hq_))
  replace hT := hT.keepO K_3 (fun q_ hq_ eq_ => htss (by simp only [one] at eq_; rw [← eq_]; exact hq_))
  have K0 := (Keeps.refl (sndS s al ts) w).trans K_3 (fun x _ hx => by simp only [one] at hx; subst hx; exact (Or.inl rfl))
  replace hB := hB_2
  clear hB_2
  refine RL.nil ?_
  refine Run.seq ?_
  refine Run.region ?_
  refine RL.val (x_assignSl rfl) ?_
  refine RL.nil ?_
  refine Run.seq ?_
  refine Run.seq ?_
  have hrl : (ts.map TrS.rp).length = ts.length := List.length_map ..
  replace hT := RTrsM.of hT hrok
  refine Run.region ?_
  refine RL.val (x_assignI rfl) ?_
  refine RL.nil ?_
  refine Run.block ?_
  refine Run.loop (ι := Nat) (fun i ρ' w' => ∃ am : Option Addr, ∃ cm : Nat, ∃ us : List (TrS RKey), Holds ρ' [(0, .pointer (some ⟨s, 0, none⟩)), (5, .slice (am) (((tkI self (max now tm) req (ts.map TrS.rp) i).T).length) (cm)), (6, .int .i64 (((i : Nat) : Int)))] ∧ Keeps (sndS s al ts) w w' ∧ (Blk w' s [.int .i64 (self), .int .i64 ((max now tm)), .int .i64 ((tkI self (max now tm) req (ts.map TrS.rp) i).r), .slice (al) ((ts.map TrS.ptr).length) (cl)] 105) ∧ (OwnSl w' 110 (al) (cl) (ts.map TrS.ptr)) ∧ (RTrsM w' ts us) ∧ (OwnSl w' 46 am cm ((tkI self (max now tm) req (ts.map TrS.rp) i).T)) ∧ (¬ trsS ts s) ∧ (∀ q_, trsS ts q_ → ¬ own al q_) ∧ (∀ q_, trsS ts q_ → ¬ own am q_) ∧ (∀ q_, trsS ts q_ → q_ < w.heap.size → (sndS s al ts) q_) ∧ (¬ own am s) ∧ (∀ q_, own am q_ → ¬ own al q_) ∧ (∀ q_, own am q_ → q_ < w.heap.size → (sndS s al ts) q_) ∧ (∀ q_, own am q_ → w.heap.size ≤ q_) ∧ (i ≤ ts.length) ∧ (us.map TrS.rp = (tkI self (max now tm) req (ts.map TrS.rp) i).L ++ (ts.map TrS.rp).drop i)) (fun i => ts.length - i) 0 ?_ ?_
  · rw [show (tkI self (max now tm) req (ts.map TrS.rp) 0).T = [] from rfl, show (tkI self (max now tm) req (ts.map TrS.rp) 0).r = req from rfl]
    have ho_16 := OwnSl.nil (α := HMsg) w_1 46
    refine ⟨_, _, ts, ⟨rfl, rfl, rfl, trivial⟩, K0, hB, ho, hT, ho_16, htss, hto, (fun q_ h1 h2 => (fun q_ h1 _ => own_none q_ h1) q_ h2 h1), (fun q_ h_ _ => Or.inr (Or.inr h_)), (own_none s), (fun q_ h1 _ => own_none q_ h1), (fun q_ h1 _ => absurd h1 (own_none q_)), (fun q_ h1 => absurd h1 (own_none q_)), ?_, ?_⟩
    · omega
    · rfl
  clear hB ho hT
  clear K0
  rintro i ρ_17 w_4 ⟨am, cm, us, hH_5, K0, hB, ho, hO_6, ho_7, pr_8, pr_9, pr_10, pr_11, pr_12, pr_13, pr_14, pr_15, hi, hup⟩ ih1
  obtain ⟨ρ₀, rfl⟩ := hH_5.ex
  clear hH_5
  refine Run.seq ?_
  refine Run.seq ?_
  refine Run.region ?_
  refine RL.val (x_moveI rfl) ?_
  refine RL.val (x_moveP rfl) ?_
  refine RL.val (x_nilCheck rfl) ?_
  refine RL.val (x_fld (o' := 3) Try.underlying105 rfl ty103 rfl rfl rfl) ?_
  refine RL.val (x_ld (v := .slice (al) ((ts.map TrS.ptr).length) (cl)) ty103 rfl rfl (hB.cl.field (i := 3) rfl)) ?_
  refine RL.val (x_lenSl Try.underlying103 rfl) ?_
  refine RL.val (x_ltI rfl rfl) ?_
  refine RL.nil ?_
  refine Run.cond rfl (fun hc16 => ?_) (fun hc16 => ?_)
  · try simp only [br] at hc16
    refine Run.skip ?_
    refine Run.seq ?_
    refine Run.block ?_
    have hul : us.length = ts.length := by have := congrArg List.length hO_6.ptr; simpa using this
    obtain ⟨t, l1, l2, hus, hl1, hti, hpt⟩ := rtr_at (ts := us) i (by omega)
    rw [hO_6.ptr] at hpt
    have htp := reach_at hup hti (by omega)
    obtain ⟨hk1, hk2⟩ := (hok.mono (now' := (max now tm)) (by omega) (by omega)).all t.rp (List.mem_of_getElem? htp)
    rw [left_len] at hk2
    have hk1 : LOk (max now tm) (t.left.map rk) := hk1
    obtain ⟨hq1, hq2, hq3, hq4⟩ := tkI_r (self := self) (now := (max now tm)) (r := req) (pl := (ts.map TrS.rp)) i (by omega)
    have htT := (tellP_T (now := (max now tm)) (r := (tkI self (max now tm) req (ts.map TrS.rp) i).r) (l := t.left.map rk)).1
    refine Run.region ?_
    refine RL.val (x_moveSl rfl) ?_
    refine RL.val (x_moveP rfl) ?_
    refine RL.val (x_moveP rfl) ?_
    refine RL.val (x_nilCheck rfl) ?_
    refine RL.val (x_fld (o' := 3) Try.underlying105 rfl ty103 rfl rfl rfl) ?_
    refine RL.val (x_ld (v := .slice (al) ((ts.map TrS.ptr).length) (cl)) ty103 rfl rfl (hB.cl.field (i := 3) rfl)) ?_
    refine RL.val (x_moveI rfl) ?_
    obtain ⟨b_18, o_19, x_22, hx_23, ha_20, hc_21⟩ := ho.sl.el (i := i) (by first | omega | (simp only [List.length_set]; omega))
    obtain rfl : (some (⟨t.blk, 0, none⟩ : Addr)) = x_22 := Option.some.inj (hpt.symm.trans hx_23)
    refine RL.val (x_idxN Try.underlying103 ty110 rfl rfl ha_20 (by first | omega | (simp only [List.length_set]; omega))) ?_
    refine RL.val (x_ldV (v := .pointer (some ⟨t.blk, 0, none⟩)) (y := (some (⟨t.blk, 0, none⟩ : Addr))) ty110 rfl hc_21 rfl) ?_
    refine RL.st rfl <| St1.call (vals := [.pointer (some ⟨s, 0, none⟩), .pointer (some ⟨t.blk, 0, none⟩)]) en62 rfl (rtellE hB hO_6 htss hus hk1 (by omega) hk2 (by omega)) ?_
    rintro _ w_26 ⟨a_24, c_25, l', rfl, ho_27, hg_28, hB_29, hl', hT_30, K_31⟩
    have pr_32 : ¬ own a_24 s := notNew hg_28 hB.lt
    have pr_33 : ∀ q_, own a_24 q_ → ¬ own al q_ := apartNew hg_28 ho.own_lt
    have pr_34 : ∀ q_, own a_24 q_ → ¬ trsS ts q_ := apartNew hg_28 hO_6.own_lt
    have pr_35 : ∀ q_, own a_24 q_ → ¬ own am q_ := apartNew hg_28 ho_7.own_lt
    have pg_36 : ∀ q_, own a_24 q_ → q_ < w.heap.size → (sndS s al ts) q_ := fun q_ h hlt => absurd (Nat.le_trans K0.size (hg_28 q_ h)) (by omega)
    have pw_37 : ∀ q_, own a_24 q_ → w.heap.size ≤ q_ := fun q_ h => Nat.le_trans K0.size (hg_28 q_ h)
    clear hg_28
    have pr_38 : ∀ q_, reachS s ts q_ → ¬ own al q_ := fun q_ x_ z_ => (reach_case _ x_).elim (fun e_ => hos (show own al s from e_ ▸ z_)) (fun y_ => (fun y_ => pr_9 q_ y_ z_) y_)
    have pr_39 : ∀ q_, reachS s ts q_ → ¬ own am q_ := fun q_ x_ z_ => (reach_case _ x_).elim (fun e_ => pr_12 (show own am s from e_ ▸ z_)) (fun y_ => (fun y_ => pr_10 q_ y_ z_) y_)
    have pg_40 : ∀ q_, reachS s ts q_ → q_ < w.heap.size → (sndS s al ts) q_ := fun q_ x_ hl_ => (reach_case _ x_).elim (fun e_ => e_ ▸ (Or.inl rfl)) (fun y_ => (fun y_ => pr_11 q_ y_ hl_) y_)
    replace ho := ho.keepO K_31 (fun q_ h1 h2 => pr_38 q_ h2 h1)
    replace ho_7 := ho_7.keepO K_31 (fun q_ h1 h2 => pr_39 q_ h2 h1)
    replace hc_21 := hc_21.keep K_31 (fun h => (fun q_ h1 h2 => pr_38 q_ h2 h1) _ ((own_sub _) _ ha_20) h)
    replace K0 := K0.trans K_31 (fun x hlt hx => pg_40 x hx hlt)
    replace hB := hB_29
    replace hO_6 := hT_30
    clear hB_29 hT_30
    have pr_41 : ¬ own al s := fun h_ => pr_38 _ reach_l h_
    have pr_42 : ¬ own am s := fun h_ => pr_39 _ reach_l h_
    have if_43 : s < w.heap.size → (sndS s al ts) s := fun hl_ => pg_40 _ reach_l hl_
    have pr_44 : ∀ q_, trsS ts q_ → ¬ own al q_ := fun q_ h_ => pr_38 q_ (reach_r q_ h_)
    have pr_45 : ∀ q_, trsS ts q_ → ¬ own am q_ := fun q_ h_ => pr_39 q_ (reach_r q_ h_)
    have hTl : ((tellP (max now tm) (tkI self (max now tm) req (ts.map TrS.rp) i).r (t.left.map rk)).T.map (msgH self t.to t.part)).length ≤ 4 := by rw [List.length_map]; exact htT
    refine RL.st rfl <| St1.append (xs := (tkI self (max now tm) req (ts.map TrS.rp) i).T) (ys := (tellP (max now tm) (tkI self (max now tm) req (ts.map TrS.rp) i).r (t.left.map rk)).T.map (msgH self t.to t.part)) Try.underlying31 ty46 rfl rfl rfl ho_7 ho_27.sl (by first | omega | (simp only [lr]; omega)) (by decide) ?_
    intro a_47 c_48 w_49 ho_50 K_51 hm_52 hrm_53
    have pr_54 : ∀ q_, own a_47 q_ → ¬ own al q_ := hm_52.apart pr_13 ho.own_lt
    have pr_55 : ¬ own a_47 s := hm_52.not pr_42 hB.lt
    have pr_56 : ∀ q_, own a_47 q_ → ¬ trsS ts q_ := hm_52.apart (fun q_ h1 h2 => pr_45 q_ h2 h1) hO_6.own_lt
    have pr_57 : ∀ q_, own a_47 q_ → ¬ own a_24 q_ := hm_52.apart (fun q_ h1 h2 => pr_35 q_ h2 h1) ho_27.own_lt
    have pg_58 : ∀ q_, own a_47 q_ → q_ < w.heap.size → (sndS s al ts) q_ := hm_52.inS pr_14 K0.size
    have pw_59 : ∀ q_, own a_47 q_ → w.heap.size ≤ q_ := hm_52.ge pr_15 K0.size
    replace ho := ho.keepO K_51 (fun q_ h1 h2 => pr_13 q_ h2 h1)
    replace hc_21 := hc_21.keep K_51 (fun h => (fun q_ h1 h2 => pr_13 q_ h2 h1) _ ((own_sub _) _ ha_20) h)
    replace hB := hB.keep K_51 pr_42
    replace hO_6 := hO_6.keepO K_51 pr_45
    replace ho_27 := ho_27.keepO K_51 pr_35
    replace K0 := K0.trans K_51 (fun x hlt hx => pr_14 x hx hlt)
    clear hm_52
    clear hrm_53
    refine RL.val (x_assignSl rfl) ?_
    refine RL.nil ?_
    refine Run.inBlock ?_
    refine Run.region ?_
    refine RL.val (x_moveI rfl) ?_
    refine RL.val (litI (c := ((i + 1 : Nat) : Int)) (x_add rfl rfl (by omega) (by omega)) rfl) ?_
    refine RL.val (x_assignI rfl) ?_
    refine RL.nil ?_
    have e1 : (tkI self (max now tm) req (ts.map TrS.rp) (i + 1)).T = (tkI self (max now tm) req (ts.map TrS.rp) i).T ++ (tellP (max now tm) (tkI self (max now tm) req (ts.map TrS.rp) i).r (t.left.map rk)).T.map (msgH self t.to t.part) := by rw [tkI_succ htp]; rfl
    have e2 : (tkI self (max now tm) req (ts.map TrS.rp) (i + 1)).r = (tellP (max now tm) (tkI self (max now tm) req (ts.map TrS.rp) i).r (t.left.map rk)).r := by rw [tkI_succ htp]; rfl
    refine ih1 (i + 1) _ _ ?_ (by omega)
    rw [e1, e2]
    refine ⟨_, _, (l1 ++ withR t l' :: l2), ⟨rfl, rfl, rfl, trivial⟩, K0, hB, ho, hO_6, ho_50, htss, pr_44, (fun q_ h1 h2 => pr_56 q_ h2 h1), (fun q_ h_ hl_ => pg_40 q_ (reach_r q_ h_) hl_), pr_55, pr_54, pg_58, pw_59, ?_, ?_⟩
    · omega
    · exact reach_up hup hus hl1 htp hl'
  · try simp only [br] at hc16
    refine Run.exit rfl ?_
    refine Run.seq ?_
    refine Run.region ?_
    refine RL.val (x_moveSl rfl) ?_
    refine RL.val (x_assignSl rfl) ?_
    refine RL.nil ?_
    refine Run.ret1 (v := .slice (am) (((tkI self (max now tm) req (ts.map TrS.rp) i).T).length) (cm)) Try.func32 rfl rfl ?_
    have hil : i = ts.length := by omega
    rw [rtick_end hil] at ho_7 hB hup ⊢
    rw [List.drop_of_length_le (by omega), List.append_nil] at hup
    have hok2 : SOk self (max now tm) (us.map TrS.rp) := by rw [hup]; exact (hok.mono (by omega) (by omega)).tick
    exact ⟨_, rfl, am, cm, al, cl, us, rfl, ho_7, pr_15, rsnd_of hB hO_6 ho hos htss hto hok2, hup, rsnd_moved (fun q h _ => .inr (.inl h)) (fun q h hl => .inr (.inr ((hO_6.same q).1 h))), told_apart pr_12 pr_13 (fun q h h2 => (fun q_ h1 h2 => pr_10 q_ h2 h1) q h2 ((hO_6.same q).1 h)), K0⟩

set_option maxRecDepth 100000 in
set_option maxHeartbeats 4000000 in
theorem ron_ (s : Nat) (al : Option Addr) (cl : Nat) (self now req : Int) (ts : List (TrS RKey)) (m : HMsg) (tm : Int) (w : World) (hD : RSndO w s al cl self now req ts) (hL : ts.length ≤ 1000) (ht : tm ≤ 9223372036854775807) (hr : 0 ≤ req ∧ req ≤ 1000000) :
    Calls Try.prog 33 #[.pointer (some ⟨s, 0, none⟩), .agg #[.int .i64 ((m).kind), .int .i64 ((m).frm), .int .i64 ((m).to), .int .i64 ((m).req), .string ((m).key), .slice (none) (0) (0), .slice (none) (0) (0), .slice (none) (0) (0), .int .i64 (0), .int .i64 ((m).part), .int .i64 (0), .int .i64 (0), .int .i64 (0), .int .i64 (0), .slice (none) (0) (0), .slice (none) (0) (0), .slice (none) (0) (0)], .int .i64 (tm)] w (Ret (fun v w' => ∃ a' c' al' cl' ts', v = .slice a' (onP self (max now tm) req (ts.map TrS.rp) m).T.length c' ∧ OwnSl w' 46 a' c' (onP self (max now tm) req (ts.map TrS.rp) m).T ∧ (∀ q, own a' q → w.heap.size ≤ q) ∧ RSndO w' s al' cl' self (max now tm) (onP self (max now tm) req (ts.map TrS.rp) m).r ts' ∧ ts'.map TrS.rp = (onP self (max now tm) req (ts.map TrS.rp) m).L ∧ (∀ q, sndS s al' ts' q → q < w.heap.size → sndS s al ts q) ∧ (∀ q, own a' q → ¬ sndS s al' ts' q) ∧ Keeps (sndS s al ts) w w')) := by
  obtain ⟨hB, ho, hT, hos, htss, hto, hok, hrok⟩ := hD
  have hlp := rptr_len ts
  have hs0 := hok.self0
  have hn0 := hok.now0
  refine calls_run (n := 97) Try.func33 rfl rfl rfl ?_
  refine Run.seq ?_
  refine Run.region ?_
  refine RL.st rfl <| St1.box (v := .agg #[.int .i64 ((m).kind), .int .i64 ((m).frm), .int .i64 ((m).to), .int .i64 ((m).req), .string ((m).key), .slice (none) (0) (0), .slice (none) (0) (0), .slice (none) (0) (0), .int .i64 (0), .int .i64 ((m).part), .int .i64 (0), .int .i64 (0), .int .i64 (0), .int .i64 (0), .slice (none) (0) (0), .slice (none) (0) (0), .slice (none) (0) (0)]) rfl ?_
  intro b_1 w_2 hl_5 hb_4 K_3
  replace hb_4 : Blk w_2 b_1 [.int .i64 ((m).kind), .int .i64 ((m).frm), .int .i64 ((m).to), .int .i64 ((m).req), .string ((m).key), .slice (none) (0) (0), .slice (none) (0) (0), .slice (none) (0) (0), .int .i64 (0), .int .i64 ((m).part), .int .i64 (0), .int .i64 (0), .int .i64 (0), .int .i64 (0), .slice (none) (0) (0), .slice (none) (0) (0), .slice (none) (0) (0)] 46 := hb_4
  have ne_6 : s < b_1 := Nat.lt_of_lt_of_le hB.lt hl_5
  have pr_7 : ¬ own al b_1 := fun h => absurd (ho.own_lt _ h) (by omega)
  have pr_8 : ¬ trsS ts b_1 := fun h => absurd (hT.own_lt _ h) (by omega)
  have : w.heap.size ≤ b_1 := hl_5
  clear hl_5
  replace hB := hB.ext K_3
  replace ho := ho.ext K_3
  replace hT := hT.ext K_3
  have K0 := (K_3 : Ext w _).to (S := (sndS s al ts))
  refine RL.val (x_assignSl rfl) ?_
  refine RL.nil ?_
  refine Run.seq ?_
  refine Run.region ?_
  refine RL.val (x_moveP rfl) ?_
  refine RL.val (x_moveI rfl) ?_
  refine RL.st rfl <| St1.call (vals := [.pointer (some ⟨s, 0, none⟩), .int .i64 (tm)]) en61 rfl (rpass_ s _ _ _ tm _ _ _ _ hB) ?_
  rintro _ w_9 ⟨rfl, hB_10, K_11⟩
  replace ho := ho.keepO K_11 (fun q_ hq_ eq_ => hos (by simp only [one] at eq_; rw [← eq_]; exact hq_))
  replace hT := hT.keepO K_11 (fun q_ hq_ eq_ => htss (by simp only [one] at eq_; rw [← eq_]; exact hq_))
  replace hb_4 := hb_4.keep K_11 (by simp only [one]; omega)
  replace K0 := K0.trans K_11 (fun x _ hx => by simp only [one] at hx; subst hx; exact (Or.inl rfl))
  replace hB := hB_10
  clear hB_10
  refine RL.nil ?_
  refine Run.seq ?_
  refine Run.seq ?_
  refine Run.region ?_
  refine RL.val (x_fld (o' := 0) Try.underlying46 rfl ty3 rfl rfl rfl) ?_
  refine RL.val (x_ld (v := .int .i64 ((m).kind)) ty3 rfl rfl (hb_4.cl.field (i := 0) rfl)) ?_
  refine RL.val (x_neI rfl rfl) ?_
  refine RL.nil ?_
  refine Run.cond rfl (fun hc16 => ?_) (fun hc16 => ?_)
  · try simp only [br] at hc16
    refine Run.seq ?_
    refine Run.region ?_
    refine RL.val (x_assignSl rfl) ?_
    refine RL.nil ?_
    refine Run.ret1 (v := .slice (none) (0) (0)) Try.func33 rfl rfl ?_
    have e := on_kind (self := self) (now := (max now tm)) (req := req) (pl := (ts.map TrS.rp)) (m := m) hc16
    rw [e]
    exact ⟨_, rfl, none, 0, al, cl, ts, rfl, OwnSl.nil _ _, fun q h => absurd h (own_none q), ⟨hB, ho, hT, hos, htss, hto, hok.mono (by omega) (by omega), hrok⟩, rfl, fun _ h _ => h, fun q h => absurd h (own_none q), K0⟩
  · try simp only [br] at hc16
    refine Run.skip ?_
    refine Run.seq ?_
    refine Run.region ?_
    refine RL.val (x_moveP rfl) ?_
    refine RL.val (x_fld (o' := 9) Try.underlying46 rfl ty3 rfl rfl rfl) ?_
    refine RL.val (x_ld (v := .int .i64 ((m).part)) ty3 rfl rfl (hb_4.cl.field (i := 9) rfl)) ?_
    refine RL.val (x_fld (o' := 1) Try.underlying46 rfl ty3 rfl rfl rfl) ?_
    refine RL.val (x_ld (v := .int .i64 ((m).frm)) ty3 rfl rfl (hb_4.cl.field (i := 1) rfl)) ?_
    refine RL.st rfl <| St1.call (vals := [.pointer (some ⟨s, 0, none⟩), .int .i64 ((m).part), .int .i64 ((m).frm)]) en57 rfl (rfind_ s al cl self (max now tm) req ts ((m).part) ((m).frm) _ (⟨hB, ho, hT, hos, htss, hto, hok.mono (by omega) (by omega), hrok⟩ : RSndO _ s al cl self (max now tm) req ts) hL) ?_
    rintro _ w_12 ⟨rfl, K_13⟩
    replace hB := hB.ext K_13
    replace ho := ho.ext K_13
    replace hT := hT.ext K_13
    replace hb_4 := hb_4.ext K_13
    replace K0 := K0.ext K_13
    refine RL.val (x_assignI rfl) ?_
    refine RL.nil ?_
    refine Run.seq ?_
    refine Run.seq ?_
    refine Run.region ?_
    refine RL.val (x_moveI rfl) ?_
    refine RL.val (x_ltI rfl rfl) ?_
    refine RL.nil ?_
    refine Run.cond rfl (fun hc24 => ?_) (fun hc24 => ?_)
    · try simp only [br] at hc24
      obtain ⟨hk, hfs, hfx⟩ := rtr_no (ts := ts) (part := m.part) (to := m.frm) (by omega)
      refine Run.seq ?_
      refine Run.region ?_
      refine RL.val (x_assignSl rfl) ?_
      refine RL.nil ?_
      refine Run.ret1 (v := .slice (none) (0) (0)) Try.func33 rfl rfl ?_
      have e := on_none (self := self) (now := (max now tm)) (req := req) (pl := (ts.map TrS.rp)) (m := m) hfx
      rw [e]
      exact ⟨_, rfl, none, 0, al, cl, ts, rfl, OwnSl.nil _ _, fun q h => absurd h (own_none q), ⟨hB, ho, hT, hos, htss, hto, hok.mono (by omega) (by omega), hrok⟩, rfl, fun _ h _ => h, fun q h => absurd h (own_none q), K0⟩
    · try simp only [br] at hc24
      obtain ⟨k, t, l1, l2, hk, hkl, hts, hl1, hti, hpt, hst, hfs, hfx⟩ := rtr_yes (ts := ts) (part := m.part) (to := m.frm) (by omega)
      rw [hk]
      obtain ⟨ht_, hR, hRt⟩ := hT.openE hts
      obtain ⟨hbt, hot, hoa⟩ := ht_
      have hLt := hok.rat (rmem_tr hts)
      have hRO := hrok t (rmem_tr hts)
      have hLr : (t.left.map rk).length = t.left.length := List.length_map ..
      have ne_14 : t.blk ≠ s := fun e_ => htss (by rw [← e_]; exact (trs_subB hts))
      have pr_15 : ¬ own al t.blk := fun h_ => hto _ (trs_subB hts) h_
      have ne_16 : t.blk ≠ b_1 := fun e_ => pr_8 (by rw [← e_]; exact (trs_subB hts))
      have if_17 : t.blk < w.heap.size → (sndS s al ts) t.blk := fun hl_ => (fun q_ h_ _ => Or.inr (Or.inr h_)) _ (trs_subB hts) hl_
      have pr_18 : ¬ own t.a s := fun h_ => htss ((trs_subO hts) _ h_)
      have pr_19 : ∀ q_, own t.a q_ → ¬ own al q_ := fun q_ h_ => hto q_ ((trs_subO hts) q_ h_)
      have pr_20 : ¬ own t.a b_1 := fun h_ => pr_8 ((trs_subO hts) _ h_)
      have pr_21 : ¬ trsS (l1 ++ l2) s := fun h_ => htss ((trs_subR hts) _ h_)
      have pr_22 : ∀ q_, trsS (l1 ++ l2) q_ → ¬ own al q_ := fun q_ h_ => hto q_ ((trs_subR hts) q_ h_)
      have pr_23 : ¬ trsS (l1 ++ l2) b_1 := fun h_ => pr_8 ((trs_subR hts) _ h_)
      clear hT
      refine Run.skip ?_
      refine Run.seq ?_
      refine Run.region ?_
      refine RL.val (x_moveP rfl) ?_
      refine RL.val (x_nilCheck rfl) ?_
      refine RL.val (x_fld (o' := 3) Try.underlying105 rfl ty103 rfl rfl rfl) ?_
      refine RL.val (x_ld (v := .slice (al) ((ts.map TrS.ptr).length) (cl)) ty103 rfl rfl (hB.cl.field (i := 3) rfl)) ?_
      refine RL.val (x_moveI rfl) ?_
      obtain ⟨b_24, o_25, x_28, hx_29, ha_26, hc_27⟩ := ho.sl.el (i := k) (by first | omega | (simp only [List.length_set]; omega))
      obtain rfl : (some (⟨t.blk, 0, none⟩ : Addr)) = x_28 := Option.some.inj (hpt.symm.trans hx_29)
      refine RL.val (x_idxN Try.underlying103 ty110 rfl rfl ha_26 (by first | omega | (simp only [List.length_set]; omega))) ?_
      refine RL.val (x_ldV (v := .pointer (some ⟨t.blk, 0, none⟩)) (y := (some (⟨t.blk, 0, none⟩ : Addr))) ty110 rfl hc_27 rfl) ?_
      refine RL.val (x_assignP rfl) ?_
      refine RL.nil ?_
      refine Run.seq ?_
      refine Run.seq ?_
      refine Run.region ?_
      refine RL.val (x_assignI rfl) ?_
      refine RL.nil ?_
      refine Run.block ?_
      refine Run.loop (ι := Nat) (fun j ρ' w' => Holds ρ' [(0, .pointer (some ⟨s, 0, none⟩)), (4, .pointer (some ⟨b_1, 0, none⟩)), (8, .pointer (some ⟨t.blk, 0, none⟩)), (9, .int .i64 (((j : Nat) : Int)))] ∧ Keeps (sndS s al ts) w w' ∧ (Blk w' s [.int .i64 (self), .int .i64 (max now tm), .int .i64 (req), .slice (al) ((ts.map TrS.ptr).length) (cl)] 105) ∧ (Blk w' b_1 [.int .i64 ((m).kind), .int .i64 ((m).frm), .int .i64 ((m).to), .int .i64 ((m).req), .string ((m).key), .slice (none) (0) (0), .slice (none) (0) (0), .slice (none) (0) (0), .int .i64 (0), .int .i64 ((m).part), .int .i64 (0), .int .i64 (0), .int .i64 (0), .int .i64 (0), .slice (none) (0) (0), .slice (none) (0) (0), .slice (none) (0) (0)] 46) ∧ (Blk w' t.blk [.int .i64 (t.part), .int .i64 (t.to), .slice (t.a) (t.left.length) (t.cap)] 109) ∧ (OwnSl w' 110 (al) (cl) (ts.map TrS.ptr)) ∧ (OwnSl w' 116 (t.a) (t.cap) (t.left)) ∧ (TrsAt 109 116 w' (l1 ++ l2)) ∧ (j ≤ t.left.length) ∧ (NoB (ackI m.key m.req) (t.left.map rk) j)) (fun j => t.left.length - j) 0 ?_ ?_
      · refine ⟨⟨rfl, rfl, rfl, rfl, trivial⟩, K0, hB, hb_4, hbt, ho, hot, hR, ?_, ?_⟩
        · omega
        · exact NoB.zero _ _
      clear hB ho hb_4 hbt hot hR
      clear K0
      rintro j ρ_32 w_30 ⟨hH_31, K0, hB, hb_4, hbt, ho, hot, hR, hj, hno⟩ ih1
      obtain ⟨ρ₀, rfl⟩ := hH_31.ex
      clear hH_31
      refine Run.seq ?_
      refine Run.seq ?_
      refine Run.region ?_
      refine RL.val (x_moveI rfl) ?_
      refine RL.val (x_moveP rfl) ?_
      refine RL.val (x_nilCheck rfl) ?_
      refine RL.val (x_fld (o' := 2) Try.underlying109 rfl ty106 rfl rfl rfl) ?_
      refine RL.val (x_ld (v := .slice (t.a) (t.left.length) (t.cap)) ty106 rfl rfl (hbt.cl.field (i := 2) rfl)) ?_
      refine RL.val (x_lenSl Try.underlying106 rfl) ?_
      refine RL.val (x_ltI rfl rfl) ?_
      refine RL.nil ?_
      refine Run.cond rfl (fun hc38 => ?_) (fun hc38 => ?_)
      · try simp only [br] at hc38
        refine Run.skip ?_
        refine Run.seq ?_
        refine Run.block ?_
        refine Run.seq ?_
        obtain ⟨x, hx⟩ : ∃ y_, t.left[j]? = some y_ := ⟨_, List.getElem?_eq_getElem (by omega)⟩
        have hxr := rk_get hx
        have hxp := hRO x (mem_of_at hx)
        obtain ⟨b_35, o_36, x_39, hx_40, ha_37, hc_38⟩ := hot.sl.el (i := j) (by first | omega | (simp only [List.length_set]; omega))
        obtain rfl : x = x_39 := Option.some.inj (hx.symm.trans hx_40)
        obtain ⟨b_41, o_42, x_45, hx_46, ha_43, hc_44⟩ := hot.sl.el (i := j) (by first | omega | (simp only [List.length_set]; omega))
        obtain rfl : x = x_45 := Option.some.inj (hx.symm.trans hx_46)
        obtain ⟨b_47, o_48, x_51, hx_52, ha_49, hc_50⟩ := hot.sl.el (i := j) (by first | omega | (simp only [List.length_set]; omega))
        obtain rfl : x = x_51 := Option.some.inj (hx.symm.trans hx_52)
        refine Run.draw' (m := 34) (by kernel_rfl) rfl ?_
        intro w_33 K_34
        replace hB := hB.ext K_34
        replace hb_4 := hb_4.ext K_34
        replace hbt := hbt.ext K_34
        replace ho := ho.ext K_34
        replace hot := hot.ext K_34
        replace hR := hR.ext K_34
        replace hc_38 := hc_38.ext K_34
        replace hc_44 := hc_44.ext K_34
        replace hc_50 := hc_50.ext K_34
        replace K0 := K0.ext K_34
        refine RA.take (v := .pointer (some ⟨t.blk, 0, none⟩)) 0 rfl (by kernel_rfl) rfl (by rintro _ rfl; exact (x_moveP rfl)) ?_
        refine RA.take (v := .pointer (some ⟨t.blk, 0, none⟩)) 1 rfl (by kernel_rfl) rfl (by rintro _ rfl; exact (x_nilCheck rfl)) ?_
        refine RA.take (v := .pointer (some ⟨t.blk, 2, none⟩)) 2 rfl (by kernel_rfl) rfl (by rintro _ rfl; exact (x_fld (o' := 2) Try.underlying109 rfl ty106 rfl rfl rfl)) ?_
        refine RA.take (v := .slice (t.a) (t.left.length) (t.cap)) 3 rfl (by kernel_rfl) rfl (by rintro _ rfl; exact (x_ld (v := .slice (t.a) (t.left.length) (t.cap)) ty106 rfl rfl (hbt.cl.field (i := 2) rfl))) ?_
        refine RA.take (v := .int .i64 (((j : Nat) : Int))) 4 rfl (by kernel_rfl) rfl (by rintro _ rfl; exact (x_moveI rfl)) ?_
        refine RA.take (v := .pointer (some ⟨b_35, o_36 + j * 4, none⟩)) 5 rfl (by kernel_rfl) rfl (by rintro _ rfl; exact (x_idxN Try.underlying106 ty116 rfl rfl ha_37 (by first | omega | (simp only [List.length_set]; omega)))) ?_
        refine RA.take (v := .pointer (some ⟨b_35, o_36 + j * 4 + 0, none⟩)) 6 rfl (by kernel_rfl) rfl (by rintro _ rfl; exact (x_fld (o' := o_36 + j * 4 + 0) Try.underlying116 rfl ty9 rfl rfl rfl)) ?_
        refine RA.take (v := .string ((x).name)) 7 rfl (by kernel_rfl) rfl (by rintro _ rfl; exact (x_ld ty9 rfl rfl (hc_38.field (i := 0) rfl))) ?_
        refine RA.take (v := .pointer (some ⟨b_1, 4, none⟩)) 8 rfl (by kernel_rfl) rfl (by rintro _ rfl; exact (x_fld (o' := 4) Try.underlying46 rfl ty9 rfl rfl rfl)) ?_
        refine RA.take (v := .string ((m).key)) 9 rfl (by kernel_rfl) rfl (by rintro _ rfl; exact (x_ld (v := .string ((m).key)) ty9 rfl rfl (hb_4.cl.field (i := 4) rfl))) ?_
        refine RA.take (v := .bool (decide ((x).name = (m).key))) 10 rfl (by kernel_rfl) rfl (by rintro _ rfl; exact (x_eqS rfl rfl)) ?_
        refine RA.take (v := .bool (decide ((x).name = (m).key))) 11 rfl (by kernel_rfl) rfl (by rintro _ rfl; exact (x_moveB rfl)) ?_
        refine RA.gtake (v := .pointer (some ⟨t.blk, 0, none⟩)) 12 rfl (by kernel_rfl) rfl (wantedT rfl rfl rfl rfl) (fun hg => by rintro _ rfl; exact (x_moveP rfl)) ?_
        refine RA.gtake (v := .pointer (some ⟨t.blk, 0, none⟩)) 13 rfl (by kernel_rfl) rfl (wantedT rfl rfl rfl rfl) (fun hg => by rintro _ rfl; exact (x_nilCheck (gvr hg))) ?_
        refine RA.gtake (v := .pointer (some ⟨t.blk, 2, none⟩)) 14 rfl (by kernel_rfl) rfl (wantedT rfl rfl rfl rfl) (fun hg => by rintro _ rfl; exact (x_fld (o' := 2) Try.underlying109 rfl ty106 rfl (gvr hg) rfl)) ?_
        refine RA.gtake (v := .slice (t.a) (t.left.length) (t.cap)) 15 rfl (by kernel_rfl) rfl (wantedT rfl rfl rfl rfl) (fun hg => by rintro _ rfl; exact (x_ld (v := .slice (t.a) (t.left.length) (t.cap)) ty106 (gvr hg) rfl (hbt.cl.field (i := 2) rfl))) ?_
        refine RA.gtake (v := .int .i64 (((j : Nat) : Int))) 16 rfl (by kernel_rfl) rfl (wantedT rfl rfl rfl rfl) (fun hg => by rintro _ rfl; exact (x_moveI rfl)) ?_
        refine RA.gtake (v := .pointer (some ⟨b_41, o_42 + j * 4, none⟩)) 17 rfl (by kernel_rfl) rfl (wantedT rfl rfl rfl rfl) (fun hg => by rintro _ rfl; exact (x_idxN Try.underlying106 ty116 (gvr hg) (gvr hg) ha_43 (by first | omega | (simp only [List.length_set]; omega)))) ?_
        refine RA.gtake (v := .pointer (some ⟨b_41, o_42 + j * 4 + 1, none⟩)) 18 rfl (by kernel_rfl) rfl (wantedT rfl rfl rfl rfl) (fun hg => by rintro _ rfl; exact (x_fld (o' := o_42 + j * 4 + 1) Try.underlying116 rfl ty4 rfl (gvr hg) rfl)) ?_
        refine RA.gtake (v := .bool ((x).sent)) 19 rfl (by kernel_rfl) rfl (wantedT rfl rfl rfl rfl) (fun hg => by rintro _ rfl; exact (x_ld ty4 (gvr hg) rfl (hc_44.field (i := 1) rfl))) ?_
        refine RA.take (v := .bool ((decide ((x).name = (m).key)) && ((x).sent))) 20 rfl (by kernel_rfl) rfl (by rintro _ rfl; exact (x_and rfl rfl rfl)) ?_
        refine RA.take (v := .bool ((decide ((x).name = (m).key)) && ((x).sent))) 21 rfl (by kernel_rfl) rfl (by rintro _ rfl; exact (x_moveB rfl)) ?_
        refine RA.gtake (v := .pointer (some ⟨t.blk, 0, none⟩)) 22 rfl (by kernel_rfl) rfl (wantedT rfl rfl rfl rfl) (fun hg => by rintro _ rfl; exact (x_moveP rfl)) ?_
        refine RA.gtake (v := .pointer (some ⟨t.blk, 0, none⟩)) 23 rfl (by kernel_rfl) rfl (wantedT rfl rfl rfl rfl) (fun hg => by rintro _ rfl; exact (x_nilCheck (gvr hg))) ?_
        refine RA.gtake (v := .pointer (some ⟨t.blk, 2, none⟩)) 24 rfl (by kernel_rfl) rfl (wantedT rfl rfl rfl rfl) (fun hg => by rintro _ rfl; exact (x_fld (o' := 2) Try.underlying109 rfl ty106 rfl (gvr hg) rfl)) ?_
        refine RA.gtake (v := .slice (t.a) (t.left.length) (t.cap)) 25 rfl (by kernel_rfl) rfl (wantedT rfl rfl rfl rfl) (fun hg => by rintro _ rfl; exact (x_ld (v := .slice (t.a) (t.left.length) (t.cap)) ty106 (gvr hg) rfl (hbt.cl.field (i := 2) rfl))) ?_
        refine RA.gtake (v := .int .i64 (((j : Nat) : Int))) 26 rfl (by kernel_rfl) rfl (wantedT rfl rfl rfl rfl) (fun hg => by rintro _ rfl; exact (x_moveI rfl)) ?_
        refine RA.gtake (v := .pointer (some ⟨b_47, o_48 + j * 4, none⟩)) 27 rfl (by kernel_rfl) rfl (wantedT rfl rfl rfl rfl) (fun hg => by rintro _ rfl; exact (x_idxN Try.underlying106 ty116 (gvr hg) (gvr hg) ha_49 (by first | omega | (simp only [List.length_set]; omega)))) ?_
        refine RA.gtake (v := .pointer (some ⟨b_47, o_48 + j * 4 + 2, none⟩)) 28 rfl (by kernel_rfl) rfl (wantedT rfl rfl rfl rfl) (fun hg => by rintro _ rfl; exact (x_fld (o' := o_48 + j * 4 + 2) Try.underlying116 rfl ty3 rfl (gvr hg) rfl)) ?_
        refine RA.gtake (v := .int .i64 ((x).req)) 29 rfl (by kernel_rfl) rfl (wantedT rfl rfl rfl rfl) (fun hg => by rintro _ rfl; exact (x_ld ty3 (gvr hg) rfl (hc_50.field (i := 2) rfl))) ?_
        refine RA.gtake (v := .pointer (some ⟨b_1, 3, none⟩)) 30 rfl (by kernel_rfl) rfl (wantedT rfl rfl rfl rfl) (fun hg => by rintro _ rfl; exact (x_fld (o' := 3) Try.underlying46 rfl ty3 rfl rfl rfl)) ?_
        refine RA.gtake (v := .int .i64 ((m).req)) 31 rfl (by kernel_rfl) rfl (wantedT rfl rfl rfl rfl) (fun hg => by rintro _ rfl; exact (x_ld (v := .int .i64 ((m).req)) ty3 (gvr hg) rfl (hb_4.cl.field (i := 3) rfl))) ?_
        refine RA.gtake (v := .bool (((x).req) == ((m).req))) 32 rfl (by kernel_rfl) rfl (wantedT rfl rfl rfl rfl) (fun hg => by rintro _ rfl; exact (x_eqI (gvr hg) (gvr hg))) ?_
        refine RA.take (v := .bool (((decide ((x).name = (m).key)) && ((x).sent)) && (((x).req) == ((m).req)))) 33 rfl (by kernel_rfl) rfl (by rintro _ rfl; exact (x_and rfl rfl rfl)) ?_
        refine RA.done (by kernel_rfl) ?_
        refine Run.cond rfl (fun hc74 => ?_) (fun hc74 => ?_)
        · try simp only [br] at hc74
          refine Run.seq ?_
          have hcapt := hot.le_cap
          have htl : (t.left.take j).length ≤ t.left.length := List.length_take_le' _ _
          have hdl : (t.left.drop (j + 1)).length + (t.left.take j).length ≤ t.left.length := by rw [List.length_drop, List.length_take]; omega
          have hjx := findIdx_some hxr (ack_y hc74 hxp) (fun j' x' h1 h2 => hno j' x' h1 h2)
          refine Run.region ?_
          refine RL.val (x_moveP rfl) ?_
          refine RL.val (x_nilCheck rfl) ?_
          refine RL.val (x_fld (o' := 2) Try.underlying109 rfl ty106 rfl rfl rfl) ?_
          refine RL.val (x_ld (v := .slice (t.a) (t.left.length) (t.cap)) ty106 rfl rfl (hbt.cl.field (i := 2) rfl)) ?_
          refine RL.val (x_moveI rfl) ?_
          refine RL.val (litSl (m' := (t.left.take j).length) (x_sliceTo Try.underlying106 ty116 rfl rfl (by omega)) (by rw [List.length_take]; omega)) ?_
          have ho_53 := OwnSl.nil (α := RKey) w_33 116
          refine RL.st rfl <| St1.append (xs := ([] : List RKey)) (ys := t.left.take j) Try.underlying106 ty116 rfl rfl rfl ho_53 (hot.sl.take j) (by first | omega | (simp only [lr]; omega)) (by decide) ?_
          intro a_54 c_55 w_56 ho_57 K_58 hm_59 hrm_60
          have pr_61 : ¬ own a_54 s := hm_59.not (own_none s) hB.lt
          have pr_62 : ¬ own a_54 b_1 := hm_59.not (own_none b_1) hb_4.lt
          have pr_63 : ¬ own a_54 t.blk := hm_59.not (own_none t.blk) hbt.lt
          have pr_64 : ∀ q_, own a_54 q_ → ¬ own al q_ := hm_59.apart (fun q_ h1 _ => own_none q_ h1) ho.own_lt
          have pr_65 : ∀ q_, own a_54 q_ → ¬ own t.a q_ := hm_59.apart (fun q_ h1 _ => own_none q_ h1) hot.own_lt
          have pr_66 : ∀ q_, own a_54 q_ → ¬ trsS (l1 ++ l2) q_ := hm_59.apart (fun q_ h1 _ => own_none q_ h1) hR.own_lt
          have pg_67 : ∀ q_, own a_54 q_ → q_ < w.heap.size → (sndS s al ts) q_ := hm_59.inS (fun q_ h1 _ => absurd h1 (own_none q_)) K0.size
          have pw_68 : ∀ q_, own a_54 q_ → w.heap.size ≤ q_ := hm_59.ge (fun q_ h1 => absurd h1 (own_none q_)) K0.size
          replace hB := hB.keep K_58 (own_none s)
          replace hb_4 := hb_4.keep K_58 (own_none b_1)
          replace hbt := hbt.keep K_58 (own_none t.blk)
          replace ho := ho.keepO K_58 (fun q_ h1 h2 => (fun q_ h1 _ => own_none q_ h1) q_ h2 h1)
          replace hot := hot.keepO K_58 (fun q_ h1 h2 => (fun q_ h1 _ => own_none q_ h1) q_ h2 h1)
          replace hR := hR.keepO K_58 (fun q_ h1 h2 => (fun q_ h1 _ => own_none q_ h1) q_ h2 h1)
          replace K0 := K0.trans K_58 (fun x hlt hx => (fun q_ h1 _ => absurd h1 (own_none q_)) x hx hlt)
          clear hm_59
          clear hrm_60
          refine RL.val (x_assignSl rfl) ?_
          refine RL.nil ?_
          refine Run.seq ?_
          refine Run.region ?_
          refine RL.val (x_moveP rfl) ?_
          refine RL.val (x_moveSl rfl) ?_
          refine RL.val (x_moveP rfl) ?_
          refine RL.val (x_nilCheck rfl) ?_
          refine RL.val (x_fld (o' := 2) Try.underlying109 rfl ty106 rfl rfl rfl) ?_
          refine RL.val (x_ld (v := .slice (t.a) (t.left.length) (t.cap)) ty106 rfl rfl (hbt.cl.field (i := 2) rfl)) ?_
          refine RL.val (x_moveI rfl) ?_
          refine RL.val (litI (c := ((j + 1 : Nat) : Int)) (x_add rfl rfl (by omega) (by omega)) rfl) ?_
          refine RL.val (x_sliceFrom (xs := t.left) Try.underlying106 ty116 rfl rfl (by omega)) ?_
          refine RL.st rfl <| St1.append (xs := ([] : List RKey) ++ t.left.take j) (ys := t.left.drop (j + 1)) Try.underlying106 ty116 rfl rfl rfl ho_57 (hot.sl.from (j + 1) t.cap (hot.le_cap)) (by first | omega | (simp only [lr]; omega)) (by decide) ?_
          intro a_69 c_70 w_71 ho_72 K_73 hm_74 hrm_75
          have pr_76 : ¬ own a_69 s := hm_74.not pr_61 hB.lt
          have pr_77 : ¬ own a_69 b_1 := hm_74.not pr_62 hb_4.lt
          have pr_78 : ¬ own a_69 t.blk := hm_74.not pr_63 hbt.lt
          have pr_79 : ∀ q_, own a_69 q_ → ¬ own al q_ := hm_74.apart pr_64 ho.own_lt
          have pr_80 : ∀ q_, own a_69 q_ → ¬ own t.a q_ := hm_74.apart pr_65 hot.own_lt
          have pr_81 : ∀ q_, own a_69 q_ → ¬ trsS (l1 ++ l2) q_ := hm_74.apart pr_66 hR.own_lt
          have pg_82 : ∀ q_, own a_69 q_ → q_ < w.heap.size → (sndS s al ts) q_ := hm_74.inS pg_67 K0.size
          have pw_83 : ∀ q_, own a_69 q_ → w.heap.size ≤ q_ := hm_74.ge pw_68 K0.size
          replace hB := hB.keep K_73 pr_61
          replace hb_4 := hb_4.keep K_73 pr_62
          replace hbt := hbt.keep K_73 pr_63
          replace ho := ho.keepO K_73 (fun q_ h1 h2 => pr_64 q_ h2 h1)
          replace hot := hot.keepO K_73 (fun q_ h1 h2 => pr_65 q_ h2 h1)
          replace hR := hR.keepO K_73 (fun q_ h1 h2 => pr_66 q_ h2 h1)
          replace K0 := K0.trans K_73 (fun x hlt hx => pg_67 x hx hlt)
          clear hm_74
          clear hrm_75
          refine RL.val (x_nilCheck rfl) ?_
          refine RL.val (x_fld (o' := 2) Try.underlying109 rfl ty106 rfl rfl rfl) ?_
          refine RL.st rfl <| St1.store (v := .slice (a_69) (((([] : List RKey) ++ t.left.take j) ++ t.left.drop (j + 1)).length) (c_70)) ty106 rfl rfl rfl (by simp [Value.cells, Value.oneCell']) hbt (by simp) ?_
          intro w_84 hbt_ K_85
          have hbt' : Blk w_84 t.blk [.int .i64 (t.part), .int .i64 (t.to), .slice (a_69) (((([] : List RKey) ++ t.left.take j) ++ t.left.drop (j + 1)).length) (c_70)] 109 := hbt_
          clear hbt_
          replace hB := hB.keep K_85 (by simp only [one]; omega)
          replace hb_4 := hb_4.keep K_85 (by simp only [one]; omega)
          replace ho := ho.keepO K_85 (fun q_ hq_ eq_ => pr_15 (by simp only [one] at eq_; rw [← eq_]; exact hq_))
          replace hot := hot.keepO K_85 (fun q_ hq_ eq_ => hoa (by simp only [one] at eq_; rw [← eq_]; exact hq_))
          replace hR := hR.keepO K_85 (fun q_ hq_ eq_ => (fun h_ => hRt _ h_ (Or.inl rfl)) (by simp only [one] at eq_; rw [← eq_]; exact hq_))
          replace ho_72 := ho_72.keepO K_85 (fun q_ hq_ eq_ => pr_78 (by simp only [one] at eq_; rw [← eq_]; exact hq_))
          replace K0 := K0.trans K_85 (fun x hlt hx => by simp only [one] at hx; subst hx; exact if_17 hlt)
          replace hbt := hbt'
          clear hbt'
          refine RL.nil ?_
          refine Run.seq ?_
          refine Run.region ?_
          refine RL.val (x_moveP rfl) ?_
          refine RL.val (x_moveP rfl) ?_
          have hdn := delI_len t.left j
          refine RL.st rfl <| St1.call (vals := [.pointer (some ⟨s, 0, none⟩), .pointer (some ⟨t.blk, 0, none⟩)]) en62 rfl (rtell_ s al (ts.map TrS.ptr).length cl self (max now tm) req t.blk t.part t.to a_69 c_70 (delI t.left j) _ hB hbt ho_72 pr_78 pr_76 (by omega) (by rw [rk_del]; exact (hLt.1.mono (by omega)).del j) (rok_delI hRO j) (by omega) (by omega) (by omega)) ?_
          rintro _ w_88 ⟨a_86, c_87, l', rfl, ho_89, hg_90, hB_91, hl', hro', ho_92, K_93⟩
          have pr_94 : ¬ own a_86 s := notNew hg_90 hB.lt
          have pr_95 : ¬ own a_86 b_1 := notNew hg_90 hb_4.lt
          have pr_96 : ¬ own a_86 t.blk := notNew hg_90 hbt.lt
          have pr_97 : ∀ q_, own a_86 q_ → ¬ own al q_ := apartNew hg_90 ho.own_lt
          have pr_98 : ∀ q_, own a_86 q_ → ¬ own t.a q_ := apartNew hg_90 hot.own_lt
          have pr_99 : ∀ q_, own a_86 q_ → ¬ trsS (l1 ++ l2) q_ := apartNew hg_90 hR.own_lt
          have pr_100 : ∀ q_, own a_86 q_ → ¬ own a_69 q_ := apartNew hg_90 ho_72.own_lt
          have pg_101 : ∀ q_, own a_86 q_ → q_ < w.heap.size → (sndS s al ts) q_ := fun q_ h hlt => absurd (Nat.le_trans K0.size (hg_90 q_ h)) (by omega)
          have pw_102 : ∀ q_, own a_86 q_ → w.heap.size ≤ q_ := fun q_ h => Nat.le_trans K0.size (hg_90 q_ h)
          clear hg_90
          have pr_103 : ¬ tellS s a_69 b_1 := fun x_ => ((fun q_ h_ => show q_ = s ∨ own a_69 q_ from h_) _ x_).elim (fun e_ => absurd e_ (by omega)) (fun y_ => pr_77 y_)
          have pr_104 : ¬ tellS s a_69 t.blk := fun x_ => ((fun q_ h_ => show q_ = s ∨ own a_69 q_ from h_) _ x_).elim (fun e_ => absurd e_ (by omega)) (fun y_ => pr_78 y_)
          have pr_105 : ∀ q_, tellS s a_69 q_ → ¬ own al q_ := fun q_ x_ z_ => ((fun q_ h_ => show q_ = s ∨ own a_69 q_ from h_) _ x_).elim (fun e_ => hos (show own al s from e_ ▸ z_)) (fun y_ => (fun y_ => pr_79 q_ y_ z_) y_)
          have pr_106 : ∀ q_, tellS s a_69 q_ → ¬ own t.a q_ := fun q_ x_ z_ => ((fun q_ h_ => show q_ = s ∨ own a_69 q_ from h_) _ x_).elim (fun e_ => pr_18 (show own t.a s from e_ ▸ z_)) (fun y_ => (fun y_ => pr_80 q_ y_ z_) y_)
          have pr_107 : ∀ q_, tellS s a_69 q_ → ¬ trsS (l1 ++ l2) q_ := fun q_ x_ z_ => ((fun q_ h_ => show q_ = s ∨ own a_69 q_ from h_) _ x_).elim (fun e_ => pr_21 (show trsS (l1 ++ l2) s from e_ ▸ z_)) (fun y_ => (fun y_ => pr_81 q_ y_ z_) y_)
          have pg_108 : ∀ q_, tellS s a_69 q_ → q_ < w.heap.size → (sndS s al ts) q_ := fun q_ x_ hl_ => ((fun q_ h_ => show q_ = s ∨ own a_69 q_ from h_) _ x_).elim (fun e_ => e_ ▸ (Or.inl rfl)) (fun y_ => (fun y_ => pg_82 q_ y_ hl_) y_)
          replace hb_4 := hb_4.keep K_93 pr_103
          replace hbt := hbt.keep K_93 pr_104
          replace ho := ho.keepO K_93 (fun q_ h1 h2 => pr_105 q_ h2 h1)
          replace hot := hot.keepO K_93 (fun q_ h1 h2 => pr_106 q_ h2 h1)
          replace hR := hR.keepO K_93 (fun q_ h1 h2 => pr_107 q_ h2 h1)
          replace K0 := K0.trans K_93 (fun x hlt hx => pg_108 x hx hlt)
          replace hB := hB_91
          clear hB_91 ho_72
          have ne_109 : s ≠ b_1 := fun e_ => pr_103 (by rw [← e_]; exact tellS_l)
          have ne_110 : s ≠ t.blk := fun e_ => pr_104 (by rw [← e_]; exact tellS_l)
          have pr_111 : ¬ own al s := fun h_ => pr_105 _ tellS_l h_
          have pr_112 : ¬ own t.a s := fun h_ => pr_106 _ tellS_l h_
          have pr_113 : ¬ trsS (l1 ++ l2) s := fun h_ => pr_107 _ tellS_l h_
          have if_114 : s < w.heap.size → (sndS s al ts) s := fun hl_ => pg_108 _ tellS_l hl_
          have pr_115 : ¬ own a_69 b_1 := fun h_ => pr_103 (tellS_r _ h_)
          have pr_116 : ¬ own a_69 t.blk := fun h_ => pr_104 (tellS_r _ h_)
          have pr_117 : ∀ q_, own a_69 q_ → ¬ own al q_ := fun q_ h_ => pr_105 q_ (tellS_r q_ h_)
          have pr_118 : ∀ q_, own a_69 q_ → ¬ own t.a q_ := fun q_ h_ => pr_106 q_ (tellS_r q_ h_)
          have pr_119 : ∀ q_, own a_69 q_ → ¬ trsS (l1 ++ l2) q_ := fun q_ h_ => pr_107 q_ (tellS_r q_ h_)
          have hll : l'.length = (delI t.left j).length := by
            have := congrArg List.length hl'
            rw [List.length_map, tellP_L, List.length_map] at this
            exact this
          replace hbt : Blk w_88 t.blk [.int .i64 t.part, .int .i64 t.to, .slice a_69 l'.length c_70] 109 := by rw [hll]; exact hbt
          refine RL.val (x_assignSl rfl) ?_
          refine RL.nil ?_
          refine Run.ret1 (v := .slice (a_86) (((tellP (max now tm) req ((delI t.left j).map rk)).T.map (msgH self t.to t.part)).length) (c_87)) Try.func33 rfl rfl ?_
          have e := ron_in (self := self) (now := (max now tm)) (req := req) (by omega) hfx hti hts hl1 hjx
          rw [e]
          have ep : ts.map TrS.ptr = (l1 ++ (⟨t.blk, t.part, t.to, a_69, c_70, l'⟩ : TrS RKey) :: l2).map TrS.ptr := by rw [hts, List.map_append, List.map_append]; rfl
          have hT' : TrsAt 109 116 w_88 (l1 ++ (⟨t.blk, t.part, t.to, a_69, c_70, l'⟩ : TrS RKey) :: l2) := TrsAt.close ⟨hbt, ho_92, pr_116⟩ hR (fun q_ h1 h2 => h2.elim (fun e_ => (fun h_ => hRt _ h_ (Or.inl rfl)) (show trsS (l1 ++ l2) t.blk from (show q_ = t.blk from e_) ▸ h1)) (fun y_ => (fun q_ h1 h2 => pr_119 q_ h2 h1) q_ h1 y_))
          have pr_120 : ¬ trsS (l1 ++ (⟨t.blk, t.part, t.to, a_69, c_70, l'⟩ : TrS RKey) :: l2) b_1 := fun x_ => (trs_case _ x_).elim (fun e_ => absurd e_ (by omega)) (fun y_ => y_.elim pr_115 (fun y_ => pr_23 y_))
          have pr_121 : ∀ q_, trsS (l1 ++ (⟨t.blk, t.part, t.to, a_69, c_70, l'⟩ : TrS RKey) :: l2) q_ → ¬ own al q_ := fun q_ x_ z_ => (trs_case _ x_).elim (fun e_ => pr_15 (show own al t.blk from e_ ▸ z_)) (fun y_ => y_.elim (fun y_ => pr_117 q_ y_ z_) (fun y_ => (fun y_ => pr_22 q_ y_ z_) y_))
          have pr_122 : ∀ q_, trsS (l1 ++ (⟨t.blk, t.part, t.to, a_69, c_70, l'⟩ : TrS RKey) :: l2) q_ → ¬ own t.a q_ := fun q_ x_ z_ => (trs_case _ x_).elim (fun e_ => hoa (show own t.a t.blk from e_ ▸ z_)) (fun y_ => y_.elim (fun y_ => pr_118 q_ y_ z_) (fun y_ => (fun y_ => (fun q_ h1 h2 => hRt q_ h1 (Or.inr h2)) q_ y_ z_) y_))
          have pr_123 : ¬ trsS (l1 ++ (⟨t.blk, t.part, t.to, a_69, c_70, l'⟩ : TrS RKey) :: l2) s := fun x_ => (trs_case _ x_).elim (fun e_ => absurd e_ (by omega)) (fun y_ => y_.elim pr_76 (fun y_ => pr_113 y_))
          have pr_124 : ∀ q_, trsS (l1 ++ (⟨t.blk, t.part, t.to, a_69, c_70, l'⟩ : TrS RKey) :: l2) q_ → ¬ own a_86 q_ := fun q_ x_ z_ => (trs_case _ x_).elim (fun e_ => pr_96 (show own a_86 t.blk from e_ ▸ z_)) (fun y_ => y_.elim (fun y_ => (fun q_ h1 h2 => pr_100 q_ h2 h1) q_ y_ z_) (fun y_ => (fun y_ => (fun q_ h1 h2 => pr_99 q_ h2 h1) q_ y_ z_) y_))
          have pg_125 : ∀ q_, trsS (l1 ++ (⟨t.blk, t.part, t.to, a_69, c_70, l'⟩ : TrS RKey) :: l2) q_ → q_ < w.heap.size → (sndS s al ts) q_ := fun q_ x_ hl_ => (trs_case _ x_).elim (fun e_ => e_ ▸ if_17 (e_ ▸ hl_)) (fun y_ => y_.elim (fun y_ => (fun q_ h_ hl_ => pg_108 q_ (tellS_r q_ h_) hl_) q_ y_ hl_) (fun y_ => (fun y_ => (fun q_ h_ hl_ => (fun q_ h_ _ => Or.inr (Or.inr h_)) q_ ((trs_subR hts) q_ h_) hl_) q_ y_ hl_) y_))
          rw [ep] at hB ho
          exact ⟨_, rfl, a_86, c_87, al, cl, (l1 ++ (⟨t.blk, t.part, t.to, a_69, c_70, l'⟩ : TrS RKey) :: l2), rfl, ho_89, pw_102, ⟨hB, ho, hT', hos, pr_123, pr_121, ron_ok (hok.mono (by omega) (by omega)) hts hl', ron_rok hrok hts hro'⟩, by rw [List.map_append, List.map_cons]; show _ ++ (⟨t.part, t.to, l'.map rk⟩ : PTr Item) :: _ = _; rw [hl'], rsnd_moved (fun q h _ => .inr (.inl h)) pg_125, told_apart pr_94 pr_97 pr_124, K0⟩
        · try simp only [br] at hc74
          refine Run.skip ?_
          refine Run.inBlock ?_
          refine Run.region ?_
          refine RL.val (x_moveI rfl) ?_
          refine RL.val (litI (c := ((j + 1 : Nat) : Int)) (x_add rfl rfl (by omega) (by omega)) rfl) ?_
          refine RL.val (x_assignI rfl) ?_
          refine RL.nil ?_
          refine ih1 (j + 1) _ _ ?_ (by omega)
          refine ⟨⟨rfl, rfl, rfl, rfl, trivial⟩, K0, hB, hb_4, hbt, ho, hot, hR, ?_, ?_⟩
          · omega
          · exact hno.step hxr (ack_n hc74)
      · try simp only [br] at hc38
        refine Run.exit rfl ?_
        refine Run.seq ?_
        refine Run.region ?_
        refine RL.val (x_assignSl rfl) ?_
        refine RL.nil ?_
        refine Run.ret1 (v := .slice (none) (0) (0)) Try.func33 rfl rfl ?_
        have e := ron_key (self := self) (now := (max now tm)) (req := req) hfx hti (findIdx_none hno (by omega))
        rw [e]
        have hT' : TrsAt 109 116 w_30 (l1 ++ t :: l2) := TrsAt.close ⟨hbt, hot, hoa⟩ hR hRt
        rw [← hts] at hT'
        exact ⟨_, rfl, none, 0, al, cl, ts, rfl, OwnSl.nil _ _, fun q h => absurd h (own_none q), ⟨hB, ho, hT', hos, htss, hto, hok.mono (by omega) (by omega), hrok⟩, rfl, fun _ h _ => h, fun q h => absurd h (own_none q), K0⟩

set_option maxRecDepth 100000 in
set_option maxHeartbeats 4000000 in
theorem rnew_ (self : Int) (w : World) :
    Calls Try.prog 28 #[.int .i64 (self)] w (Ret (fun v w' => (¬ (0 ≤ self ∧ self < 8) ∧ v = .tuple #[.pointer none, .int .i64 1] ∧ Ext w w') ∨ ((0 ≤ self ∧ self < 8) ∧ ∃ s, v = .tuple #[.pointer (some ⟨s, 0, none⟩), .int .i64 0] ∧ RSndO w' s none 0 self 0 0 [] ∧ (∀ q, sndS s none ([] : List (TrS RKey)) q → w.heap.size ≤ q) ∧ Ext w w'))) := by
  refine calls_run (n := 13) Try.func28 rfl rfl rfl ?_
  refine Run.seq ?_
  refine Run.region ?_
  refine RL.val (x_assignP rfl) ?_
  refine RL.val (x_assignI rfl) ?_
  refine RL.nil ?_
  refine Run.seq ?_
  refine Run.seq ?_
  refine Run.region ?_
  refine RL.val (x_moveI rfl) ?_
  refine RL.val (x_ltI rfl rfl) ?_
  refine RL.val (x_moveB rfl) ?_
  refine RL.gval (wantedF rfl rfl rfl rfl) (fun hg => (x_moveI rfl)) ?_
  refine RL.gval (wantedF rfl rfl rfl rfl) (fun hg => (x_geI (gvr hg) rfl)) ?_
  refine RL.val (x_or rfl rfl rfl) ?_
  refine RL.nil ?_
  refine Run.cond rfl (fun hc9 => ?_) (fun hc9 => ?_)
  · try simp only [br] at hc9
    refine Run.seq ?_
    refine Run.region ?_
    refine RL.val (x_assignP rfl) ?_
    refine RL.val (x_assignI rfl) ?_
    refine RL.nil ?_
    refine Run.ret2 (v := .pointer none) (x := .int .i64 (1)) Try.func28 rfl rfl rfl ?_
    exact ⟨_, rfl, .inl ⟨by omega, rfl, Keeps.refl _ w⟩⟩
  · try simp only [br] at hc9
    refine Run.skip ?_
    refine Run.seq ?_
    refine Run.region ?_
    refine RL.val (x_moveI rfl) ?_
    refine RL.val (x_build (cells := #[.int .i64 (self), .int .i64 (0), .int .i64 (0), .slice (none) (0) (0)]) (by kernel_rfl)) ?_
    refine RL.st rfl <| St1.box (v := .agg #[.int .i64 (self), .int .i64 (0), .int .i64 (0), .slice (none) (0) (0)]) rfl ?_
    intro b_1 w_2 hl_5 hb_4 K_3
    replace hb_4 : Blk w_2 b_1 [.int .i64 (self), .int .i64 (0), .int .i64 (0), .slice (none) (0) (0)] 105 := hb_4
    have : w.heap.size ≤ b_1 := hl_5
    clear hl_5
    have K0 := (K_3 : Ext w _)
    refine RL.val (x_assignP rfl) ?_
    refine RL.val (x_assignI rfl) ?_
    refine RL.nil ?_
    refine Run.ret2 (v := .pointer (some ⟨b_1, 0, none⟩)) (x := .int .i64 (0)) Try.func28 rfl rfl rfl ?_
    exact ⟨_, rfl, .inr ⟨by omega, b_1, rfl, ⟨hb_4, OwnSl.nil _ _, TrsAt.nil _ _ _, own_none _, fun ⟨_, h, _⟩ => absurd h (by simp), fun _ ⟨_, h, _⟩ => absurd h (by simp), ⟨by omega, by omega, fun _ h => absurd h (by simp)⟩, fun _ h => absurd h (by simp)⟩, fun q h => h.elim (fun e => by rw [e]; omega) (fun h => h.elim (fun h => absurd h (own_none q)) (fun ⟨_, h, _⟩ => absurd h (by simp))), K0⟩⟩

end Go.Proofs.Ythhhkjmlnjbnjaa
