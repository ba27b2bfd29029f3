/-
  SwimDead.
-/
import Derived.Test.YtagfdmdajmkddaaRows
import Derived.Test.YtagfdmdajmkddaaSi
namespace Go.Proofs.Ytagfdmdajmkddaa
attribute [local irreducible] St1 RL RA RT RT1 Run

open Sa
/-- a table that knows of one other node, and has pinged it -/
structure Dst (a b now st si : Int) (ps : List Ping) (req last : Int) (T : Tab) : Prop where
  self : T.self = a
  now : T.now = now
  at_ : T.l[b.toNat]? = some ⟨⟨b, 0, st⟩, si⟩
  oth : ∀ n k, n ≠ b.toNat → T.l[n]? = some k → ((n : Int) = a ∧ k.peer.status = 1) ∨ k.peer.status = 0
  len : T.l.length = 8
  pings : T.pings = ps
  req : T.req = req
  begun : T.begun = true
  last : T.last = last
  target : T.target = b
theorem Dst.to {a b now st si req last now' st' si' req' last' : Int} {ps ps' : List Ping} {T : Tab} (h : Dst a b now st si ps req last T) (h1 : now = now') (h2 : st = st') (h3 : si = si') (h4 : ps = ps') (h5 : req = req') (h6 : last = last') : Dst a b now' st' si' ps' req' last' T := by
  subst h1; subst h2; subst h3; subst h4; subst h5; subst h6; exact h
section
attribute [local irreducible] oldT waitedT beginT passT
theorem tick_T (T : Tab) (t : Int) : (tick T t).T = (beginT (waitedT (oldT (passT T t)).1).T).1 := rfl
end
section
variable {a b now st si req last : Int} {ps : List Ping} {T : Tab}
theorem Dst.learn (h : Dst a b now st si ps req last T) (hb : 0 ≤ b ∧ b < 8) (st' : Int) : Dst a b now st' now ps req last (learnT T ⟨b, 0, st'⟩) := by
  refine ⟨h.self, h.now, ?_, ?_, by simp only [learnT, List.length_set]; exact h.len, h.pings, h.req, h.begun, h.last, h.target⟩
  · simp only [learnT, h.now]
    rw [List.getElem?_set_self (by have := h.len; omega)]
  · intro n k hn hk
    simp only [learnT] at hk
    rw [List.getElem?_set_ne (by omega)] at hk
    exact h.oth n k hn hk
theorem d_old {T : Tab} (hb : 0 ≤ b ∧ b < 8) (h : Dst a b now st si ps req last T) : ∀ i, rf old1 (T, []) i = if b.toNat < i ∧ st = 2 ∧ 300 ≤ now - si then (learnT T ⟨b, 0, 3⟩, [⟨b, 0, 3⟩]) else (T, []) := by
  intro i
  induction i with
  | zero => rw [if_neg (by omega)]; rfl
  | succ i ih =>
    rw [rf_succ, ih]
    by_cases hc : st = 2 ∧ 300 ≤ now - si
    · by_cases hi : b.toNat < i
      · rw [if_pos ⟨hi, hc⟩, if_pos ⟨by omega, hc⟩, old1]
        have hd := h.learn hb 3
        split
        · rfl
        · rename_i k hk
          rw [if_neg]
          rintro ⟨e, _⟩
          have := hd.oth i k (by omega) hk
          omega
      · rw [if_neg (fun e => hi e.1)]
        by_cases he : i = b.toNat
        · subst he
          rw [old1_yes h.at_ (by simp only [h.now]; exact hc), if_pos ⟨by omega, hc⟩]
          rfl
        · rw [if_neg (by omega), old1]
          split
          · rfl
          · rename_i k hk
            rw [if_neg]
            rintro ⟨e, _⟩
            have := h.oth i k he hk
            omega
    · rw [if_neg (fun e => hc e.2), if_neg (fun e => hc e.2), old1]
      split
      · rfl
      · rename_i k hk
        rw [if_neg]
        rintro ⟨e1, e2⟩
        simp only at hk
        by_cases he : i = b.toNat
        · subst he
          rw [h.at_] at hk
          cases hk
          rw [h.now] at e2
          exact hc ⟨e1, e2⟩
        · have := h.oth i k he hk
          omega
theorem d_old_no (hb : 0 ≤ b ∧ b < 8) (h : Dst a b now st si ps req last T) (hc : ¬ (st = 2 ∧ 300 ≤ now - si)) : (oldT T).1 = T := by
  unfold oldT; rw [d_old hb h 8, if_neg (fun e => hc e.2)]
theorem d_old_yes (hb : 0 ≤ b ∧ b < 8) (h : Dst a b now st si ps req last T) (hc : st = 2 ∧ 300 ≤ now - si) : Dst a b now 3 now ps req last (oldT T).1 := by
  unfold oldT; rw [d_old hb h 8, if_pos ⟨by omega, hc⟩]; exact h.learn hb 3
theorem wait_one {p : Ping} (hp : T.pings = [p]) : (waitedT T).T = { (wai1 ⟨T, [], [], []⟩ p).T with pings := (wai1 ⟨T, [], [], []⟩ p).left } := by
  have e : waiI T T.pings.length = wai1 ⟨T, [], [], []⟩ p := by
    rw [hp]
    exact (waiI_succ (T := T) (i := 0) (p := p) (by rw [hp]; rfl)).trans (by rw [show waiI T 0 = ⟨T, [], [], []⟩ from tf_zero _ _ _])
  unfold waitedT
  rw [e]
theorem Dst.withP (h : Dst a b now st si ps req last T) (qs : List Ping) : Dst a b now st si qs req last { T with pings := qs } :=
  ⟨h.self, h.now, h.at_, h.oth, h.len, rfl, h.req, h.begun, h.last, h.target⟩
theorem d_left {p : Ping} (h : Dst a b now st si [p] req last T) (hc : now - p.since < 50) : Dst a b now st si [p] req last (waitedT T).T := by
  rw [wait_one h.pings, wai1_left (by simp only [h.now]; exact hc)]
  exact h.withP _
theorem d_ask {p : Ping} (h : Dst a b now st si [p] req last T) (hc : ¬ now - p.since < 50) (ho : p.others = false) : Dst a b now st si [{ p with others := true, since := now }] req last (waitedT T).T := by
  rw [wait_one h.pings, wai1_ask (by simp only [h.now]; exact hc) ho]
  have e : ([] : List Ping) ++ [{ p with others := true, since := T.now }] = [{ p with others := true, since := now }] := by simp [h.now]
  exact (h.withP ([] ++ [{ p with others := true, since := T.now }])).to rfl rfl rfl e rfl rfl
theorem d_sus {p : Ping} (hb : 0 ≤ b ∧ b < 8) (h : Dst a b now st si [p] req last T) (hc : ¬ now - p.since < 50) (ho : p.others = true) (ht : p.target = b) (h1 : st = 1) : Dst a b now 2 now [] req last (waitedT T).T := by
  rw [wait_one h.pings, wai1_sus (k := ⟨⟨b, 0, st⟩, si⟩) (by simp only [h.now]; exact hc) ho (by rw [ht]; exact h.at_) h1]
  exact (h.learn hb 2).withP _
theorem d_no {p : Ping} (h : Dst a b now st si [p] req last T) (hc : ¬ now - p.since < 50) (ho : p.others = true) (ht : p.target = b) (h1 : ¬ st = 1) : Dst a b now st si [] req last (waitedT T).T := by
  rw [wait_one h.pings, wai1_no (k := ⟨⟨b, 0, st⟩, si⟩) (by simp only [h.now]; exact hc) ho (by rw [ht]; exact h.at_) h1]
  exact h.withP _
theorem d_bwait (h : Dst a b now st si ps req last T) (hc : now - last < 100) : (beginT T).1 = T := by
  rw [begin_wait ⟨h.begun, by rw [h.now, h.last]; exact hc⟩]
theorem next_one {m : Nat} {k : KnownM} (hm : m < 8) (hk : T.l[m]? = some k) (hs : k.peer.status ≠ 0) (hn : (m : Int) ≠ T.self) (hp : T.pings = []) (ho : ∀ n k', n ≠ m → T.l[n]? = some k' → (n : Int) = T.self ∨ k'.peer.status = 0) : nextT T = (m : Int) := by
  have key : ∀ i, rf (nxt1 T) (-1, -1) i = if m < i then ((m : Int), if T.target < (m : Int) then (m : Int) else -1) else (-1, -1) := by
    intro i
    induction i with
    | zero => rw [if_neg (by omega)]; rfl
    | succ i ih =>
      rw [rf_succ, ih]
      by_cases he : i = m
      · subst he
        rw [if_neg (show ¬ i < i by omega), if_pos (show i < i + 1 by omega), nxt1_go hk ⟨⟨hn, hs⟩, by rw [hp]; rfl⟩]
        simp only
        rw [if_pos (by omega)]
        congr 1
        by_cases ht : T.target < (i : Int)
        · rw [if_pos ⟨by omega, ht⟩, if_pos ht]
        · rw [if_neg (fun e => ht e.2), if_neg ht]
      · have e : ∀ s, nxt1 T s i = s := by
          intro s
          unfold nxt1
          split
          · rfl
          · rename_i k' hk'
            rw [if_pos (.inl (ho i k' he hk'))]
        rw [e]
        by_cases hi : m < i
        · rw [if_pos hi, if_pos (show m < i + 1 by omega)]
        · rw [if_neg hi, if_neg (show ¬ m < i + 1 by omega)]
  unfold nextT
  simp only
  rw [key 8, if_pos hm]
  simp only
  by_cases ht : T.target < (m : Int)
  · rw [if_pos ht, if_pos (by omega)]
  · rw [if_neg ht, if_neg (by omega)]
theorem d_bgo (hb : 0 ≤ b ∧ b < 8) (hab : b ≠ a) (h : Dst a b now st si [] req last T) (hc : ¬ now - last < 100) (hr : req < 1099511627776) (hs : st ≠ 0) : Dst a b now st si [⟨b, req + 1, now, false⟩] (req + 1) now (beginT T).1 := by
  have hb' : ((b.toNat : Nat) : Int) = b := by omega
  have hn : nextT T = b := by
    rw [← hb']
    exact next_one (by omega) h.at_ hs (by rw [h.self, hb']; exact hab) h.pings (fun n k' hn hk' => by rcases h.oth n k' hn hk' with e | e; (· rw [h.self]; exact .inl e.1); (· exact .inr e))
  rw [begin_yes (by rw [h.now, h.last]; exact fun e => hc e.2) (by rw [hn, h.req]; omega)]
  exact ⟨h.self, h.now, h.at_, h.oth, h.len, by simp only [h.pings, h.req, h.now, hn, List.nil_append], by simp only [h.req], rfl, h.now, hn⟩
end
def stOf (i : Nat) : Int := if i < 100 then 1 else if i < 400 then 2 else 3
def siOf (f : Int) (i : Nat) : Int := if i < 100 then f else if i < 400 then f + 100 else f + 400
def pingOf (b f : Int) (i : Nat) : Ping := ⟨b, ((i / 100 : Nat) : Int) + 1, f + 100 * ((i / 100 : Nat) : Int) + (if i % 100 < 50 then 0 else 50), decide (50 ≤ i % 100)⟩
def DeadSt (a b f : Int) (i : Nat) (T : Tab) : Prop := Dst a b (f + (i : Int)) (stOf i) (siOf f i) [pingOf b f i] (((i / 100 : Nat) : Int) + 1) (f + 100 * ((i / 100 : Nat) : Int)) T
theorem Dst.pass {a b now st si req last t : Int} {ps : List Ping} {T : Tab} (h : Dst a b now st si ps req last T) (ht : now ≤ t) : Dst a b t st si ps req last (passT T t) :=
  ⟨h.self, by simp only [passT, h.now]; omega, h.at_, h.oth, h.len, h.pings, h.req, h.begun, h.last, h.target⟩
theorem dead_step {a b f : Int} {i : Nat} {T : Tab} (hb : 0 ≤ b ∧ b < 8) (hab : b ≠ a) (hi : i < 1000) (h : DeadSt a b f i T) : DeadSt a b f (i + 1) (tick T (f + ((i + 1 : Nat) : Int))).T := by
  have hp := h.pass (t := f + ((i + 1 : Nat) : Int)) (by omega)
  rw [tick_T]
  by_cases h400 : i + 1 = 400
  · have ho := d_old_yes hb hp ⟨by unfold stOf; rw [if_neg (by omega), if_pos (by omega)], by unfold siOf; rw [if_neg (by omega), if_pos (by omega)]; omega⟩
    have hw := d_no ho (by unfold pingOf; simp only; split <;> omega) (by simp only [pingOf, decide_eq_true_eq]; omega) rfl (by omega)
    have hg := d_bgo hb hab hw (by omega) (by omega) (by omega)
    refine hg.to rfl ?_ ?_ ?_ ?_ ?_
    · unfold stOf; rw [if_neg (by omega), if_neg (by omega)]
    · unfold siOf; rw [if_neg (by omega), if_neg (by omega)]; omega
    · have e1 : (i + 1) / 100 = i / 100 + 1 := by omega
      have e2 : (i + 1) % 100 = 0 := by omega
      have e3 : i / 100 = 3 := by omega
      simp only [pingOf, e1, e2, e3]
      have e4 : f + ((i + 1 : Nat) : Int) = f + 100 * ((3 + 1 : Nat) : Int) + 0 := by omega
      rw [e4]
      rfl
    · omega
    · omega
  · have hq : ¬ (stOf i = 2 ∧ 300 ≤ f + ((i + 1 : Nat) : Int) - siOf f i) := by
      unfold stOf siOf
      split
      · omega
      · split <;> omega
    rw [d_old_no hb hp hq]
    by_cases hr : i % 100 = 99
    · -- the ping is over
      have e1 : (i + 1) / 100 = i / 100 + 1 := by omega
      have e2 : (i + 1) % 100 = 0 := by omega
      have hf : f + ((i + 1 : Nat) : Int) = f + 100 * ((i / 100 + 1 : Nat) : Int) + 0 := by omega
      have hps : [(⟨b, ((i / 100 : Nat) : Int) + 1 + 1, f + ((i + 1 : Nat) : Int), false⟩ : Ping)] = [pingOf b f (i + 1)] := by
        simp only [pingOf, e1, e2]
        rw [hf]
        have : ((i / 100 : Nat) : Int) + 1 + 1 = ((i / 100 + 1 : Nat) : Int) + 1 := by omega
        rw [this]
        rfl
      have hsin : ¬ f + ((i + 1 : Nat) : Int) - (pingOf b f i).since < 50 := by unfold pingOf; simp only; split <;> omega
      have hoth : (pingOf b f i).others = true := by simp only [pingOf, decide_eq_true_eq]; omega
      by_cases h1 : stOf i = 1
      · have h99 : i = 99 := by
          unfold stOf at h1
          split at h1
          · omega
          · split at h1 <;> omega
        have hw := d_sus hb hp hsin hoth rfl h1
        have hg := d_bgo hb hab hw (by omega) (by omega) (by omega)
        refine hg.to rfl ?_ ?_ hps ?_ ?_
        · subst h99; rfl
        · subst h99; unfold siOf; rw [if_neg (by omega), if_pos (by omega)]; omega
        · omega
        · omega
      · have hne : ¬ i < 100 := fun e => h1 (by unfold stOf; rw [if_pos e])
        have hw := d_no hp hsin hoth rfl h1
        have hg := d_bgo hb hab hw (by omega) (by omega) (by unfold stOf; split <;> first | omega | (split <;> omega))
        refine hg.to rfl ?_ ?_ hps ?_ ?_
        · unfold stOf; rw [if_neg hne, if_neg (show ¬ i + 1 < 100 by omega)]; split <;> split <;> omega
        · unfold siOf; rw [if_neg hne, if_neg (show ¬ i + 1 < 100 by omega)]; split <;> split <;> omega
        · omega
        · omega
    · have e1 : (i + 1) / 100 = i / 100 := by omega
      have e2 : (i + 1) % 100 = i % 100 + 1 := by omega
      have hst : stOf i = stOf (i + 1) := by unfold stOf; split <;> split <;> first | omega | (split <;> first | omega | (split <;> omega))
      have hsi : siOf f i = siOf f (i + 1) := by unfold siOf; split <;> split <;> first | omega | (split <;> first | omega | (split <;> omega))
      by_cases h49 : i % 100 = 49
      · have hw := d_ask hp (by unfold pingOf; simp only; rw [if_pos (by omega)]; omega) (by simp only [pingOf, decide_eq_false_iff_not]; omega)
        rw [d_bwait hw (by omega)]
        refine hw.to rfl hst hsi ?_ ?_ ?_
        · simp only [pingOf, e1, e2]
          have : f + ((i + 1 : Nat) : Int) = f + 100 * ((i / 100 : Nat) : Int) + 50 := by omega
          rw [this, if_neg (show ¬ i % 100 + 1 < 50 by omega), show decide (50 ≤ i % 100 + 1) = true by simp; omega]
        · rw [e1]
        · rw [e1]
      · have hw := d_left hp (by unfold pingOf; simp only; split <;> omega)
        rw [d_bwait hw (by omega)]
        refine hw.to rfl hst hsi ?_ ?_ ?_
        · simp only [pingOf, e1, e2]
          by_cases hc : i % 100 < 50
          · rw [if_pos hc, if_pos (show i % 100 + 1 < 50 by omega), show decide (50 ≤ i % 100) = decide (50 ≤ i % 100 + 1) by congr 1; apply propext; omega]
          · rw [if_neg hc, if_neg (show ¬ i % 100 + 1 < 50 by omega), show decide (50 ≤ i % 100) = decide (50 ≤ i % 100 + 1) by congr 1; apply propext; omega]
        · rw [e1]
        · rw [e1]
/-- the table ahead of the first tick -/
def deadT (a b f : Int) : Tab := (hear (newT a) [⟨b, 0, 1⟩] f).1
theorem deadT_eq {a b f : Int} (ha : 0 ≤ a ∧ a < 8) (hb : 0 ≤ b ∧ b < 8) (hab : b ≠ a) (hf : 0 ≤ f) : deadT a b f = learnT (passT (newT a) f) ⟨b, 0, 1⟩ := by
  have e : hear (newT a) [⟨b, 0, 1⟩] f = hear1 (passT (newT a) f, []) ⟨b, 0, 1⟩ := rfl
  unfold deadT
  rw [e]
  have hk : (passT (newT a) f).l[b.toNat]? = some zk := by
    simp only [passT, newT]
    rw [List.getElem?_set_ne (by omega), rep_get (by omega)]
  rw [hear1_new (k := zk) (by simp [mayB]; omega) (by exact hab) hk (.inl rfl)]
theorem dead_zero {a b f : Int} (ha : 0 ≤ a ∧ a < 8) (hb : 0 ≤ b ∧ b < 8) (hab : b ≠ a) (hf : 0 ≤ f) : DeadSt a b f 0 (tick (deadT a b f) (f + ((0 : Nat) : Int))).T := by
  have hnow : (passT (newT a) f).now = f := by simp only [passT, newT]; omega
  have hD := deadT_eq ha hb hab hf
  have hpass : passT (deadT a b f) (f + ((0 : Nat) : Int)) = deadT a b f := by
    rw [hD]
    unfold passT learnT
    simp only
    congr 1
    simp only [newT]
    omega
  have hself : (deadT a b f).self = a := by rw [hD]; rfl
  have hnow2 : (deadT a b f).now = f := by rw [hD]; exact hnow
  have hpings : (deadT a b f).pings = [] := by rw [hD]; rfl
  have hat : (deadT a b f).l[b.toNat]? = some ⟨⟨b, 0, 1⟩, f⟩ := by
    rw [hD]
    simp only [learnT, hnow]
    rw [List.getElem?_set_self (by simp [passT, newT]; omega)]
  have hoth : ∀ n k, n ≠ b.toNat → (deadT a b f).l[n]? = some k → ((n : Int) = a ∧ k.peer.status = 1) ∨ k.peer.status = 0 := by
    intro n k hn hk
    rw [hD] at hk
    simp only [learnT] at hk
    rw [List.getElem?_set_ne (by omega)] at hk
    simp only [passT, newT] at hk
    rw [List.getElem?_set] at hk
    split at hk
    · rename_i he
      split at hk
      · cases hk; exact .inl ⟨by omega, rfl⟩
      · cases hk
    · rw [List.getElem?_replicate] at hk
      split at hk
      · cases hk; exact .inr rfl
      · cases hk
  rw [tick_T, hpass, old_none (fun k hk => by
    obtain ⟨n, hn, rfl⟩ := List.getElem_of_mem hk
    by_cases he : n = b.toNat
    · subst he
      have := List.getElem?_eq_getElem hn
      rw [hat] at this
      rw [← Option.some.inj this]
      simp
    · rcases hoth n _ he (List.getElem?_eq_getElem hn) with e | e <;> omega)]
  simp only
  rw [waited_none hpings]
  simp only
  have hb' : ((b.toNat : Nat) : Int) = b := by omega
  have hn : nextT (deadT a b f) = b := by
    refine (next_one (m := b.toNat) (by omega) hat (by simp) (by rw [hself, hb']; exact hab) hpings (fun n k' hn hk' => ?_)).trans hb'
    rcases hoth n k' hn hk' with e | e
    · rw [hself]; exact .inl e.1
    · exact .inr e
  have hbeg : (deadT a b f).begun = false := by rw [hD]; rfl
  have hreq : (deadT a b f).req = 0 := by rw [hD]; rfl
  have hlen : (deadT a b f).l.length = 8 := by rw [hD]; simp [learnT, passT, newT]
  rw [begin_yes (by rw [hbeg]; rintro ⟨e, _⟩; cases e) (by rw [hn, hreq]; omega)]
  refine ⟨hself, by simp only [hnow2]; omega, ?_, hoth, hlen, ?_, ?_, rfl, ?_, hn⟩
  · simp only [hat]
    rfl
  · simp only [hpings, hreq, hnow2, hn, List.nil_append, pingOf]
    have : f + 100 * ((0 / 100 : Nat) : Int) + 0 = f := by omega
    simp
  · simp only [hreq]; rfl
  · simp only [hnow2]; omega
def Before (a b f : Int) (i : Nat) (T : Tab) : Prop := (i = 0 ∧ T = deadT a b f) ∨ ∃ j, i = j + 1 ∧ DeadSt a b f j T
theorem before_tick {a b f : Int} {i : Nat} {T : Tab} (ha : 0 ≤ a ∧ a < 8) (hb : 0 ≤ b ∧ b < 8) (hab : b ≠ a) (hf : 0 ≤ f) (hi : i < 1000) (h : Before a b f i T) : DeadSt a b f i (tick T (f + (i : Int))).T := by
  rcases h with ⟨rfl, rfl⟩ | ⟨j, rfl, h⟩
  · exact dead_zero ha hb hab hf
  · exact dead_step hb hab (by omega) h
theorem dead_status {a b f : Int} {i : Nat} {T : Tab} (hb : 0 ≤ b ∧ b < 8) (h : DeadSt a b f i T) : statusL T.l b = stOf i := statusL_at hb h.at_
theorem before_pings {a b f : Int} {i : Nat} {T : Tab} (ha : 0 ≤ a ∧ a < 8) (hb : 0 ≤ b ∧ b < 8) (hab : b ≠ a) (hf : 0 ≤ f) (h : Before a b f i T) : T.pings.length ≤ 1 := by
  rcases h with ⟨rfl, rfl⟩ | ⟨j, rfl, h⟩
  · rw [deadT_eq ha hb hab hf]; simp [learnT, passT, newT]
  · rw [h.pings]; simp
attribute [local irreducible] tick



set_option maxRecDepth 100000 in
set_option maxHeartbeats 4000000 in
theorem law_dead (u v z : Int) (w : World) (hu : 0 ≤ u) (hv : 0 ≤ v) :
    Calls Try.prog 5 #[.int .u64 (u), .int .u64 (v), .int .i64 (z)] w (Ret (fun v w' => v = .bool true ∧ Ext w w')) := by
  obtain ⟨a, hae, ha0, ha8⟩ := mod_n (m := 8) hu (by omega) (by omega)
  obtain ⟨b, hbe, hb0, hb8⟩ := mod_n (m := 8) hv (by omega) (by omega)
  obtain ⟨f, hfe, hf0, hf8⟩ := mod_n (u := IntKind.u64.wrap z) (m := 1099511627776) (u64_nonneg z).1 (by omega) (by omega)
  refine calls_run (n := 74) Try.func5 rfl rfl rfl ?_
  refine Run.seq ?_
  refine Run.region ?_
  refine RL.val (x_assignB rfl) ?_
  refine RL.nil ?_
  refine Run.seq ?_
  refine Run.region ?_
  refine RL.val (x_moveI rfl) ?_
  refine RL.val (x_rem rfl rfl (by decide)) ?_
  refine RL.val (litI (c := a) (x_convI rfl ⟨_, Try.underlying27⟩ Try.underlying3) hae) ?_
  refine RL.val (x_moveI rfl) ?_
  refine RL.val (x_rem rfl rfl (by decide)) ?_
  refine RL.val (litI (c := b) (x_convI rfl ⟨_, Try.underlying27⟩ Try.underlying3) hbe) ?_
  refine RL.val (x_assignI rfl) ?_
  refine RL.val (x_assignI rfl) ?_
  refine RL.nil ?_
  refine Run.seq ?_
  refine Run.seq ?_
  refine Run.region ?_
  refine RL.val (x_moveI rfl) ?_
  refine RL.val (x_moveI rfl) ?_
  refine RL.val (x_eqI rfl rfl) ?_
  refine RL.nil ?_
  refine Run.cond rfl (fun hc21 => ?_) (fun hc21 => ?_)
  · try simp only [br] at hc21
    refine Run.seq ?_
    refine Run.region ?_
    refine RL.st rfl <| St1.call (vals := []) en13 rfl (awake_ _) ?_
    rintro _ w_1 ⟨rfl, K_2⟩
    have K0 := (K_2 : Ext w _)
    refine RL.val (x_assignB rfl) ?_
    refine RL.nil ?_
    refine Run.ret1 (v := .bool (true)) Try.func5 rfl rfl ?_
    exact ⟨_, rfl, rfl, K0⟩
  · try simp only [br] at hc21
    refine Run.skip ?_
    refine Run.seq ?_
    refine Run.region ?_
    refine RL.val (x_moveI rfl) ?_
    refine RL.st rfl <| St1.call (vals := [.int .i64 (a)]) en14 rfl (new_ a _) ?_
    rintro _ w_4 (⟨hbad_8, _, _⟩ | ⟨b_3, _, rfl, hT_5, hg_6, K_7⟩)
    · exact absurd hbad_8 (by omega)
    have pg_9 : ∀ q_, tabS b_3 none q_ → w.heap.size ≤ q_ := fun q_ h => Nat.le_trans (Nat.le_refl _) ((tabS_new hg_6) q_ h)
    clear hg_6
    have K0 := (K_7 : Ext w _)
    refine RL.val (x_moveT rfl) ?_
    refine RL.val (x_extract rfl rfl) ?_
    refine RL.val (x_extract rfl rfl) ?_
    refine RL.val (x_assignP rfl) ?_
    refine RL.val (x_assignI rfl) ?_
    refine RL.nil ?_
    refine Run.seq ?_
    refine Run.seq ?_
    refine Run.region ?_
    refine RL.val (x_moveI rfl) ?_
    refine RL.val (litF (x_neI rfl rfl) (by decide)) ?_
    refine RL.val (x_moveB rfl) ?_
    refine RL.gst (wantedF1 rfl rfl rfl rfl) <| St1.val (x_moveP rfl) ?_
    refine RL.gst (wantedF1 rfl rfl rfl rfl) <| St1.val (litF (x_ptrNil Try.underlying28 rfl rfl) rfl) ?_
    refine RL.val (x_orF rfl rfl rfl) ?_
    refine RL.val (x_moveB rfl) ?_
    refine RL.gst (wantedF1 rfl rfl rfl rfl) <| St1.call (vals := []) en13 rfl (awake_ _) ?_
    rintro _ w_10 ⟨rfl, K_11⟩
    replace hT_5 := hT_5.ext K_11
    replace K0 := K0.ext K_11
    refine RL.gst (wantedF1 rfl rfl rfl rfl) <| St1.val (x_not rfl) ?_
    refine RL.val (x_orF rfl rfl rfl) ?_
    refine RL.nil ?_
    refine Run.condF rfl ?_
    refine Run.skip ?_
    refine Run.seq ?_
    refine Run.region ?_
    refine RL.val (x_moveI rfl) ?_
    refine RL.val (x_convI rfl ⟨_, Try.underlying3⟩ Try.underlying27) ?_
    refine RL.val (x_rem rfl rfl (by decide)) ?_
    refine RL.val (litI (c := f) (x_convI rfl ⟨_, Try.underlying27⟩ Try.underlying3) hfe) ?_
    refine RL.val (x_assignI rfl) ?_
    refine RL.nil ?_
    refine Run.seq ?_
    refine Run.region ?_
    refine RL.val (x_moveP rfl) ?_
    refine RL.val (x_moveI rfl) ?_
    refine RL.val (x_build (cells := #[.int .i64 (b), .int .i64 (0), .int .i64 (1)]) (by kernel_rfl)) ?_
    refine RL.st rfl <| St1.buildSlice ([(⟨b, 0, 1⟩ : Peer)] : List Peer) Try.underlying32 ty23 rfl rfl (by first | decide | (simp [Enc.size])) ?_
    intro b_12 w_13 hl_16 ho_15 K_14
    have pr_17 : ∀ q_, own (some ⟨b_12, 0, none⟩) q_ → ¬ tabS b_3 none q_ := apartNew (ge_new hl_16) hT_5.own_lt
    have pg_18 : ∀ q_, own (some ⟨b_12, 0, none⟩) q_ → w.heap.size ≤ q_ := fun q_ h => Nat.le_trans K0.size ((ge_new hl_16) q_ h)
    clear hl_16
    replace hT_5 := hT_5.ext K_14
    replace K0 := K0.ext K_14
    refine RL.val (x_moveI rfl) ?_
    refine RL.st rfl <| St1.call (vals := [.pointer (some ⟨b_3, 0, none⟩), .slice (some ⟨b_12, 0, none⟩) (([(⟨b, 0, 1⟩ : Peer)] : List Peer).length) (([(⟨b, 0, 1⟩ : Peer)] : List Peer).length), .int .i64 (f)]) en15 rfl (hear_ _ _ _ (newT a) _ ([(⟨b, 0, 1⟩ : Peer)] : List Peer) _ f _ hT_5 ho_15.sl (fun x hx _ hb => (fun q_ h1 h2 => pr_17 q_ h2 h1) _ hb ((own_sub _) x hx)) (by first | omega | simp) (by omega)) ?_
    rintro _ w_21 ⟨a_19, c_20, rfl, ho_22, hg_23, hT_24, K_25⟩
    have pr_26 : ∀ q_, own a_19 q_ → ¬ tabS b_3 none q_ := apartNew hg_23 hT_5.own_lt
    have pr_27 : ∀ q_, own a_19 q_ → ¬ own (some ⟨b_12, 0, none⟩) q_ := apartNew hg_23 ho_15.own_lt
    have pg_28 : ∀ q_, own a_19 q_ → w.heap.size ≤ q_ := fun q_ h => Nat.le_trans K0.size (hg_23 q_ h)
    clear hg_23
    replace ho_15 := ho_15.keepO K_25 pr_17
    replace K0 := K0.new K_25 pg_9
    replace hT_5 := hT_24
    clear hT_24
    refine RL.nil ?_
    refine Run.seq ?_
    refine Run.seq ?_
    refine Run.region ?_
    refine RL.val (x_moveI rfl) ?_
    refine RL.nil ?_
    refine Run.block ?_
    refine Run.loop (ι := Nat) (fun i ρ' w' => ∃ T : Tab, ∃ alb : Option Addr, ∃ clb : Nat, Holds ρ' [(2, .int .i64 (f)), (8, .int .i64 (b)), (9, .pointer (some ⟨b_3, 0, none⟩)), (48, .int .i64 (((i : Nat) : Int)))] ∧ Ext w w' ∧ (OwnSl w' 23 (some ⟨b_12, 0, none⟩) (([(⟨b, 0, 1⟩ : Peer)] : List Peer).length) (([(⟨b, 0, 1⟩ : Peer)] : List Peer))) ∧ (OwnSl w' 23 (a_19) (c_20) ((hear (newT a) ([(⟨b, 0, 1⟩ : Peer)] : List Peer) f).2)) ∧ (TabAt w' b_3 alb clb T) ∧ (∀ q_, tabS b_3 alb q_ → ¬ own (some ⟨b_12, 0, none⟩) q_) ∧ (∀ q_, tabS b_3 alb q_ → ¬ own a_19 q_) ∧ (∀ q_, tabS b_3 alb q_ → w.heap.size ≤ q_) ∧ (i ≤ 420) ∧ (Before a b f i T)) (fun i => 420 - i) 0 ?_ ?_
    · refine ⟨_, _, _, ⟨rfl, rfl, rfl, rfl, trivial⟩, K0, ho_15, ho_22, hT_5, (fun q_ h1 h2 => pr_17 q_ h2 h1), (fun q_ h1 h2 => pr_26 q_ h2 h1), pg_9, ?_, ?_⟩
      · omega
      · exact .inl ⟨rfl, rfl⟩
    clear hT_5 ho_15 ho_22
    clear K0
    rintro i ρ_35 w_29 ⟨T, alb, clb, hH_30, K0, ho_15, ho_22, hO_31, pr_32, pr_33, pr_34, hi, hbf⟩ ih1
    obtain ⟨ρ₀, rfl⟩ := hH_30.ex
    clear hH_30
    refine Run.seq ?_
    refine Run.region ?_
    refine RL.val (x_ltI rfl rfl) ?_
    refine RL.nil ?_
    refine Run.seq ?_
    refine Run.cond rfl (fun hc49 => ?_) (fun hc49 => ?_)
    · try simp only [br] at hc49
      refine Run.skip ?_
      refine Run.seq ?_
      refine Run.block ?_
      refine Run.seq ?_
      refine Run.region ?_
      refine RL.val (x_moveI rfl) ?_
      refine RL.val (x_assignI rfl) ?_
      refine RL.nil ?_
      refine Run.seq ?_
      have hds := before_tick (f := f) ⟨ha0, ha8⟩ ⟨hb0, hb8⟩ (fun e => hc21 e.symm) hf0 (by omega) hbf
      have hst := dead_status ⟨hb0, hb8⟩ hds
      have hpl := before_pings (f := f) ⟨ha0, ha8⟩ ⟨hb0, hb8⟩ (fun e => hc21 e.symm) hf0 hbf
      refine Run.region ?_
      refine RL.val (x_moveP rfl) ?_
      refine RL.val (x_moveI rfl) ?_
      refine RL.val (x_moveI rfl) ?_
      refine RL.val (x_add rfl rfl (by omega) (by omega)) ?_
      refine RL.st rfl <| St1.call (vals := [.pointer (some ⟨b_3, 0, none⟩), .int .i64 (f + ((i : Nat) : Int))]) en16 rfl (tick_ _ _ _ T (f + ((i : Nat) : Int)) _ hO_31 (by omega) (by omega)) ?_
      rintro _ w_38 ⟨al_36, cl_37, a_42, c_43, a_44, c_45, rfl, hT_39, ho_46, ho_47, hg_48, hg_49, pr_50, pr_51, pr_52, hm_40, K_41⟩
      have pr_53 : ∀ q_, own a_42 q_ → ¬ own (some ⟨b_12, 0, none⟩) q_ := apartNew hg_48 ho_15.own_lt
      have pr_54 : ∀ q_, own a_42 q_ → ¬ own a_19 q_ := apartNew hg_48 ho_22.own_lt
      have pr_55 : ∀ q_, own a_42 q_ → ¬ tabS b_3 alb q_ := apartNew hg_48 hO_31.own_lt
      have pg_56 : ∀ q_, own a_42 q_ → w.heap.size ≤ q_ := fun q_ h => Nat.le_trans K0.size (hg_48 q_ h)
      have pr_57 : ∀ q_, own a_44 q_ → ¬ own (some ⟨b_12, 0, none⟩) q_ := apartNew hg_49 ho_15.own_lt
      have pr_58 : ∀ q_, own a_44 q_ → ¬ own a_19 q_ := apartNew hg_49 ho_22.own_lt
      have pr_59 : ∀ q_, own a_44 q_ → ¬ tabS b_3 alb q_ := apartNew hg_49 hO_31.own_lt
      have pg_60 : ∀ q_, own a_44 q_ → w.heap.size ≤ q_ := fun q_ h => Nat.le_trans K0.size (hg_49 q_ h)
      have pr_61 : ∀ q_, tabS b_3 al_36 q_ → ¬ own (some ⟨b_12, 0, none⟩) q_ := hm_40.apart pr_32 ho_15.own_lt
      have pr_62 : ∀ q_, tabS b_3 al_36 q_ → ¬ own a_19 q_ := hm_40.apart pr_33 ho_22.own_lt
      have pg_63 : ∀ q_, tabS b_3 al_36 q_ → w.heap.size ≤ q_ := hm_40.ge pr_34 K0.size
      replace ho_15 := ho_15.keepO K_41 (fun q_ h1 h2 => pr_32 q_ h2 h1)
      replace ho_22 := ho_22.keepO K_41 (fun q_ h1 h2 => pr_33 q_ h2 h1)
      replace K0 := K0.new K_41 pr_34
      clear hm_40
      clear hg_48 hg_49
      refine RL.nil ?_
      refine Run.seq ?_
      refine Run.region ?_
      refine RL.val (x_assignI rfl) ?_
      refine RL.nil ?_
      refine Run.seq ?_
      refine Run.seq ?_
      refine Run.region ?_
      refine RL.val (x_moveI rfl) ?_
      refine RL.val (x_geI rfl rfl) ?_
      refine RL.nil ?_
      refine Run.cond rfl (fun hc57 => ?_) (fun hc57 => ?_)
      · try simp only [br] at hc57
        refine Run.region ?_
        refine RL.val (x_assignI rfl) ?_
        refine RL.nil ?_
        refine Run.seq ?_
        refine Run.seq ?_
        refine Run.region ?_
        refine RL.val (x_moveI rfl) ?_
        refine RL.val (x_geI rfl rfl) ?_
        refine RL.nil ?_
        refine Run.cond rfl (fun hc59 => ?_) (fun hc59 => ?_)
        · try simp only [br] at hc59
          refine Run.region ?_
          refine RL.val (x_assignI rfl) ?_
          refine RL.nil ?_
          refine Run.seq ?_
          refine Run.region ?_
          refine RL.val (x_moveP rfl) ?_
          refine RL.val (x_moveI rfl) ?_
          refine RL.st rfl <| St1.call (vals := [.pointer (some ⟨b_3, 0, none⟩), .int .i64 (b)]) en17 rfl (status_ _ _ _ ((tick T (f + ((i : Nat) : Int))).T) b _ hT_39.blk hT_39.ok.len) ?_
          rintro _ w_64 ⟨rfl, K_65⟩
          replace ho_15 := ho_15.ext K_65
          replace ho_22 := ho_22.ext K_65
          replace hT_39 := hT_39.ext K_65
          replace ho_46 := ho_46.ext K_65
          replace ho_47 := ho_47.ext K_65
          replace K0 := K0.ext K_65
          refine RL.val (x_moveI rfl) ?_
          refine RL.val (litF (x_neI rfl rfl) (by rw [hst]; unfold stOf; split <;> first | rfl | omega | (split <;> first | rfl | omega))) ?_
          refine RL.val (x_moveB rfl) ?_
          refine RL.gst (wantedF1 rfl rfl rfl rfl) <| St1.val (x_moveP rfl) ?_
          refine RL.gst (wantedF1 rfl rfl rfl rfl) <| St1.val (x_moveI rfl) ?_
          refine RL.gst (wantedF1 rfl rfl rfl rfl) <| St1.call (vals := [.pointer (some ⟨b_3, 0, none⟩), .int .i64 (b)]) en18 rfl (up_ _ _ _ ((tick T (f + ((i : Nat) : Int))).T) b _ hT_39.blk hT_39.ok.len) ?_
          rintro _ w_66 ⟨rfl, K_67⟩
          replace ho_15 := ho_15.ext K_67
          replace ho_22 := ho_22.ext K_67
          replace hT_39 := hT_39.ext K_67
          replace ho_46 := ho_46.ext K_67
          replace ho_47 := ho_47.ext K_67
          replace K0 := K0.ext K_67
          refine RL.gst (wantedF1 rfl rfl rfl rfl) <| St1.val (x_moveI rfl) ?_
          refine RL.gst (wantedF1 rfl rfl rfl rfl) <| St1.val (x_ltI rfl rfl) ?_
          refine RL.gst (wantedF1 rfl rfl rfl rfl) <| St1.val (litF (x_neB Try.underlying4 rfl rfl) (by rw [hst]; unfold stOf; split <;> first | (simp; omega) | (split <;> (simp; omega)))) ?_
          refine RL.val (x_orF rfl rfl rfl) ?_
          refine RL.nil ?_
          refine Run.condF rfl ?_
          refine Run.skip ?_
          refine Run.inBlock ?_
          refine Run.region ?_
          refine RL.val (litI (c := ((i + 1 : Nat) : Int)) (x_add rfl rfl (by omega) (by omega)) rfl) ?_
          refine RL.val (x_moveI rfl) ?_
          refine RL.nil ?_
          refine ih1 (i + 1) _ _ ?_ (by omega)
          refine ⟨_, _, _, ⟨rfl, rfl, rfl, rfl, trivial⟩, K0, ho_15, ho_22, hT_39, pr_61, pr_62, pg_63, ?_, ?_⟩
          · omega
          · exact .inr ⟨i, rfl, hds⟩
        · try simp only [br] at hc59
          refine Run.skip ?_
          refine Run.seq ?_
          refine Run.region ?_
          refine RL.val (x_moveP rfl) ?_
          refine RL.val (x_moveI rfl) ?_
          refine RL.st rfl <| St1.call (vals := [.pointer (some ⟨b_3, 0, none⟩), .int .i64 (b)]) en17 rfl (status_ _ _ _ ((tick T (f + ((i : Nat) : Int))).T) b _ hT_39.blk hT_39.ok.len) ?_
          rintro _ w_68 ⟨rfl, K_69⟩
          replace ho_15 := ho_15.ext K_69
          replace ho_22 := ho_22.ext K_69
          replace hT_39 := hT_39.ext K_69
          replace ho_46 := ho_46.ext K_69
          replace ho_47 := ho_47.ext K_69
          replace K0 := K0.ext K_69
          refine RL.val (x_moveI rfl) ?_
          refine RL.val (litF (x_neI rfl rfl) (by rw [hst]; unfold stOf; split <;> first | rfl | omega | (split <;> first | rfl | omega))) ?_
          refine RL.val (x_moveB rfl) ?_
          refine RL.gst (wantedF1 rfl rfl rfl rfl) <| St1.val (x_moveP rfl) ?_
          refine RL.gst (wantedF1 rfl rfl rfl rfl) <| St1.val (x_moveI rfl) ?_
          refine RL.gst (wantedF1 rfl rfl rfl rfl) <| St1.call (vals := [.pointer (some ⟨b_3, 0, none⟩), .int .i64 (b)]) en18 rfl (up_ _ _ _ ((tick T (f + ((i : Nat) : Int))).T) b _ hT_39.blk hT_39.ok.len) ?_
          rintro _ w_70 ⟨rfl, K_71⟩
          replace ho_15 := ho_15.ext K_71
          replace ho_22 := ho_22.ext K_71
          replace hT_39 := hT_39.ext K_71
          replace ho_46 := ho_46.ext K_71
          replace ho_47 := ho_47.ext K_71
          replace K0 := K0.ext K_71
          refine RL.gst (wantedF1 rfl rfl rfl rfl) <| St1.val (x_moveI rfl) ?_
          refine RL.gst (wantedF1 rfl rfl rfl rfl) <| St1.val (x_ltI rfl rfl) ?_
          refine RL.gst (wantedF1 rfl rfl rfl rfl) <| St1.val (litF (x_neB Try.underlying4 rfl rfl) (by rw [hst]; unfold stOf; split <;> first | (simp; omega) | (split <;> (simp; omega)))) ?_
          refine RL.val (x_orF rfl rfl rfl) ?_
          refine RL.nil ?_
          refine Run.condF rfl ?_
          refine Run.skip ?_
          refine Run.inBlock ?_
          refine Run.region ?_
          refine RL.val (litI (c := ((i + 1 : Nat) : Int)) (x_add rfl rfl (by omega) (by omega)) rfl) ?_
          refine RL.val (x_moveI rfl) ?_
          refine RL.nil ?_
          refine ih1 (i + 1) _ _ ?_ (by omega)
          refine ⟨_, _, _, ⟨rfl, rfl, rfl, rfl, trivial⟩, K0, ho_15, ho_22, hT_39, pr_61, pr_62, pg_63, ?_, ?_⟩
          · omega
          · exact .inr ⟨i, rfl, hds⟩
      · try simp only [br] at hc57
        refine Run.skip ?_
        refine Run.seq ?_
        refine Run.seq ?_
        refine Run.region ?_
        refine RL.val (x_moveI rfl) ?_
        refine RL.val (x_geI rfl rfl) ?_
        refine RL.nil ?_
        refine Run.cond rfl (fun hc59 => ?_) (fun hc59 => ?_)
        · try simp only [br] at hc59
          exact absurd hc59 (by omega)
        · try simp only [br] at hc59
          refine Run.skip ?_
          refine Run.seq ?_
          refine Run.region ?_
          refine RL.val (x_moveP rfl) ?_
          refine RL.val (x_moveI rfl) ?_
          refine RL.st rfl <| St1.call (vals := [.pointer (some ⟨b_3, 0, none⟩), .int .i64 (b)]) en17 rfl (status_ _ _ _ ((tick T (f + ((i : Nat) : Int))).T) b _ hT_39.blk hT_39.ok.len) ?_
          rintro _ w_72 ⟨rfl, K_73⟩
          replace ho_15 := ho_15.ext K_73
          replace ho_22 := ho_22.ext K_73
          replace hT_39 := hT_39.ext K_73
          replace ho_46 := ho_46.ext K_73
          replace ho_47 := ho_47.ext K_73
          replace K0 := K0.ext K_73
          refine RL.val (x_moveI rfl) ?_
          refine RL.val (litF (x_neI rfl rfl) (by rw [hst]; unfold stOf; split <;> first | rfl | omega | (split <;> first | rfl | omega))) ?_
          refine RL.val (x_moveB rfl) ?_
          refine RL.gst (wantedF1 rfl rfl rfl rfl) <| St1.val (x_moveP rfl) ?_
          refine RL.gst (wantedF1 rfl rfl rfl rfl) <| St1.val (x_moveI rfl) ?_
          refine RL.gst (wantedF1 rfl rfl rfl rfl) <| St1.call (vals := [.pointer (some ⟨b_3, 0, none⟩), .int .i64 (b)]) en18 rfl (up_ _ _ _ ((tick T (f + ((i : Nat) : Int))).T) b _ hT_39.blk hT_39.ok.len) ?_
          rintro _ w_74 ⟨rfl, K_75⟩
          replace ho_15 := ho_15.ext K_75
          replace ho_22 := ho_22.ext K_75
          replace hT_39 := hT_39.ext K_75
          replace ho_46 := ho_46.ext K_75
          replace ho_47 := ho_47.ext K_75
          replace K0 := K0.ext K_75
          refine RL.gst (wantedF1 rfl rfl rfl rfl) <| St1.val (x_moveI rfl) ?_
          refine RL.gst (wantedF1 rfl rfl rfl rfl) <| St1.val (x_ltI rfl rfl) ?_
          refine RL.gst (wantedF1 rfl rfl rfl rfl) <| St1.val (litF (x_neB Try.underlying4 rfl rfl) (by rw [hst]; unfold stOf; split <;> first | (simp; omega) | (split <;> (simp; omega)))) ?_
          refine RL.val (x_orF rfl rfl rfl) ?_
          refine RL.nil ?_
          refine Run.condF rfl ?_
          refine Run.skip ?_
          refine Run.inBlock ?_
          refine Run.region ?_
          refine RL.val (litI (c := ((i + 1 : Nat) : Int)) (x_add rfl rfl (by omega) (by omega)) rfl) ?_
          refine RL.val (x_moveI rfl) ?_
          refine RL.nil ?_
          refine ih1 (i + 1) _ _ ?_ (by omega)
          refine ⟨_, _, _, ⟨rfl, rfl, rfl, rfl, trivial⟩, K0, ho_15, ho_22, hT_39, pr_61, pr_62, pg_63, ?_, ?_⟩
          · omega
          · exact .inr ⟨i, rfl, hds⟩
    · try simp only [br] at hc49
      refine Run.exit rfl ?_
      refine Run.seq ?_
      refine Run.region ?_
      refine RL.val (x_assignB rfl) ?_
      refine RL.nil ?_
      refine Run.ret1 (v := .bool (true)) Try.func5 rfl rfl ?_
      exact ⟨_, rfl, rfl, K0⟩

end Go.Proofs.Ytagfdmdajmkddaa
