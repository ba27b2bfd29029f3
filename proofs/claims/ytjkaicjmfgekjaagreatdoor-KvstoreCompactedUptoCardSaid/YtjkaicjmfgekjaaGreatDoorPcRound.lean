/-
  Round
-/
import Derived.Test.YtjkaicjmfgekjaaGreatDoorPcDraw
import Derived.OrdersIn
import Derived.RangeFuncIn
set_option linter.all false
namespace Go.Proofs.YtjkaicjmfgekjaaGreatDoor
section
variable {P :Program}{f:FuncId}{n:FN}{R:Ending->World->Prop}{k:List Item}{ρ:Bd}{w:World}
def Ai.of_wpIn {c : Code} {m : Nat} (h : c.wpIn Fence.wide m P (IZ P f n R k) (Ci n ρ) w) : Ai P f n R (.code c :: k) ρ w := by
  intro cs;obtain ⟨e, a', w', hq, harr⟩ := h (bf f) k cs rfl trivial (room_wide _);have hb : (bf f).atR (Ci n ρ) (.code c :: k) = (bf f).at (Ci n ρ) (.code c :: k) := rfl;cases e with
  | normal =>
    obtain ⟨ds, ρ', rfl, hrun⟩ := hq;obtain ⟨e, w'', fr, hR, hc, hf, hl⟩ := hrun cs;exact ⟨e, w'', fr, hR, Comes.of_steps (stepsIn_wide.1 harr) hc, hf, hl⟩
  | exit id => exact hq.elim
  | goto l => exact hq.elim
  | ret => exact hq.elim
  | panic ch =>
    obtain ⟨hd, ⟨fn, hfn⟩, hR⟩ := hq;obtain ⟨todo, hs⟩ := harr;exact ⟨.panicked ch, w', _, hR, comesIn_wide.1 hs, rfl, rfl, hd, fn, hfn⟩
  | outgrown =>
    exact ⟨.outgrown, w', bf f, hq, comesIn_wide.1 (harr.resolve_left (by simp [bf])), rfl, trivial⟩
end
section
variable {P :Program}{ops:Array Oper}{Q:Exit->Act->World->Prop}{S:World->Prop}{U:List Nat}
abbrev wpOpW (P:Program)(ops:Array Oper)(Q:Exit->Act->World->Prop)(i:Nat)(K:Act->World->Prop)(a:Act)(w:World):Prop:=wpOpIn Fence.wide 0 P ops Q i K a w
def NS {i:Nat}{o:Oper}{v:Value}{a:Act}(hi:ops[i]? =some o)(hy:YieldsIf P ops S o v a){K:Act->World->Prop}{w:World}(hS:S w)(h:K (a.put o.dst v) w):wpOpW P ops Q i K a w:=by
 unfold Go.Proofs.YtjkaicjmfgekjaaGreatDoor.wpOpW Go.wpOpIn;simp only[hi];rcases hy with⟨hw,hv⟩|⟨hw,rfl⟩
 ·rw[if_pos hw];refine⟨λ_ _=>trivial,?_⟩;show o.uponIn _ _ _ _ _ _ ((execOp a.eval o).run P w)
  rw[hv w hS];exact h
 rw[if_neg (by rw[hw];simp)];exact⟨λ_ _=>trivial,h⟩
def Pm {j : Nat} {oi oj : Oper} {v : Value} (hj : ops[j]? = some oj) (hap : oi.apart ops oj = true)
    (hsi : ∀ cs b, oi.op ≠ .select cs b) (hsj : ∀ cs b, oj.op ≠ .select cs b) (hQ : ∀ c a w, Q (.panic c) (a.put oi.dst v) w -> Q (.panic c) a w) {K : Act -> World -> Prop} {a : Act} {w : World}
    (hy : YieldsIf P ops S oi v a) (h : wpOpW P ops Q j K (a.put oi.dst v) w) : wpOpW P ops Q j (λa' w' => YieldsIf P ops S oi v a' /\ K (a'.put oi.dst v) w') a w := by
  obtain ⟨h1, h2, h3⟩ := Oper.apart_spec hap;have keep : ∀ (a : Act), YieldsIf P ops S oi v a -> ∀ u, YieldsIf P ops S oi v (a.put oj.dst u) := λa hy u => hy.of_same (execOp_put oi hsi a oj.dst u h3) (wanted_put oi a oj.dst u h3)
  have back : ∀ u, K ((a.put oi.dst v).put oj.dst u) w -> K ((a.put oj.dst u).put oi.dst v) w := λu h => by rw [<- Act.put_comm a v u h2]; exact h
  unfold wpOpW wpOpIn at *;simp only [hj] at *;rw [wanted_put oj a oi.dst v h1] at h;by_cases hw : Region.wanted oj (yielded ops a.tmps) = true
  · rw [if_pos hw] at h ⊢;refine ⟨λ_ _ => trivial, ?_⟩;have h : oj.uponIn Fence.wide 0 P (a.put oi.dst v) K Q ((execOp (a.put oi.dst v).eval oj).run P w) := h.2;show oj.uponIn Fence.wide 0 P a _ Q ((execOp a.eval oj).run P w)
    rw [execOp_put oj hsj a oi.dst v h1] at h;generalize (execOp a.eval oj).run P w = r at h ⊢;cases r with
    | halt x w' =>
      cases x <;> simp only [Oper.uponIn] at h ⊢
      exact hQ _ _ _ h
    | ok x w' =>
      have rt : ∀ (u : Value) (w'' : World), K ((a.put oi.dst v).put oj.dst u) w'' -> YieldsIf P ops S oi v (a.put oj.dst u) /\ K ((a.put oj.dst u).put oi.dst v) w'' := λu w'' h => ⟨keep a hy u, by rw [<- Act.put_comm a v u h2]; exact h⟩
      cases x <;> simp only [Oper.uponIn] at h ⊢
      case value u => exact rt _ _ h
      case skip => exact rt _ _ h
      case defer d =>
        refine ⟨keep { a with defers := d :: a.defers } (hy.of_same rfl rfl) _, ?_⟩;rw [<- Act.put_comm _ v undef h2, <- Act.put_defers];exact h
      case enter g args =>
        refine ⟨h.1, h.2.mono λe w'' he => ?_⟩;cases e with
        | returned u => exact rt _ _ he
        | panicked c => exact hQ _ _ _ he
        | outgrown => exact he
      case row row args => exact ⟨h.1, h.2.mono λu w'' he => rt _ _ he⟩
      case round l g tmps assign body =>
        refine ⟨h.1, h.2.mono λe w'' he => ?_⟩;cases e with
        | returned u => exact rt _ _ he
        | panicked c => exact hQ _ _ _ he
        | outgrown => exact he
  rw [if_neg hw] at h ⊢;exact ⟨λ_ _ => trivial, keep a hy _, by rw [<- Act.put_comm a v undef h2]; exact h.2⟩
def Lu (P : Program) (ops : Array Oper) (Q : Exit -> Act -> World -> Prop) (S : World -> Prop) (U : List Nat) : Nat -> Array Bool -> Act -> World -> Prop
  | 0, listed, a, w => Region.ready .any ops listed = [] /\ Q .normal a w
  | fuel + 1, listed, a, w =>
    (Region.ready .any ops listed = [] -> Q .normal a w) /\
    ∀ i ∈ Region.ready .any ops listed, wpOpW P ops Q i (λa' w' => (CC U (listed.setIfInBounds i true) = true \/ S w') /\ Lu P ops Q S U fuel (listed.setIfInBounds i true) a' w') a w
def wpAnyIn_of_W :∀(fuel:Nat) (listed:Array Bool) (a:Act) (w:World),Lu P ops Q S U fuel listed a w->wpAnyIn Fence.wide 0 P .any ops Q fuel listed a w
 |0,_,_,_,h=>h
 |fuel+1,_,_,_,h=>⟨h.1,λi hi=>wpOpIn_mono (λa' w' h'=>wpAnyIn_of_W fuel _ a' w' h'.2) (h.2 i hi)⟩
def NT {i : Nat} {oi : Oper} {v : Value} (hi : ops[i]? = some oi) (hsel : ∀ (j : Nat) (o : Oper) cs b, ops[j]? = some o -> o.op ≠ .select cs b)
    (hQ : ∀ c a w, Q (.panic c) (a.put oi.dst v) w -> Q (.panic c) a w) (hU : vB ops U i = true) :
    ∀ (fuel : Nat) (listed : Array Bool) (a : Act) (w : World),
      (∀ j oj, ops[j]? = some oj -> j ≠ i -> listed.getD j true = false -> (∀ e ∈ oj.after, Region.binds .any e = true -> e.on ≠ i) -> oi.apart ops oj = true) ->
      i ∈ Region.ready .any ops listed -> CC U listed = false -> YieldsIf P ops S oi v a -> S w ->
      Lu P ops Q S U fuel (listed.setIfInBounds i true) (a.put oi.dst v) w -> Lu P ops Q S U (fuel + 1) listed a w := by
  intro fuel;induction fuel with
  | zero =>
    intro listed a w _ hr _ hy hS H;refine ⟨λh => (by rw [h] at hr; cases hr), λj hj => ?_⟩;by_cases hji : j = i
    · subst hji; exact NS hi hy hS ⟨.inr hS, H⟩
    have := ready_mono hj hji;rw [H.1] at this;cases this
  | succ fuel ih =>
    intro listed a w hfree hr hlv hy hS H;refine ⟨λh => (by rw [h] at hr; cases hr), λj hj => ?_⟩;by_cases hji : j = i
    · subst hji; exact NS hi hy hS ⟨.inr hS, H⟩
    have h1 := H.2 j (ready_mono hj hji);obtain ⟨hjun, oj, hoj, hall⟩ := mem_ready.1 hj;have hi0 := (mem_ready.1 hr).1;have hnot : ∀ e ∈ oj.after, Region.binds .any e = true -> e.on ≠ i := λe he hb heq => by
      have h1 := hall e he hb;rw [heq] at h1;rcases Abn i listed.size with h' | h'
      · simp [h'] at hi0 h1; rw [hi0] at h1; cases h1
      simp [AbT h'] at h1
    obtain ⟨hiU, hjU⟩ := Rb hU hoj hnot;have hfin : CC U ((listed.setIfInBounds i true).setIfInBounds j true) = false := by rw [C6 hjU, C6 hiU]; exact hlv
    have h2 := Pm (S := S) hoj (hfree j oj hoj hji hjun hnot) (λcs b => hsel i oi cs b hi) (λcs b => hsel j oj cs b hoj) hQ hy h1;have hfree' : ∀ k ok, ops[k]? = some ok -> k ≠ i -> (listed.setIfInBounds j true).getD k true = false ->
        (∀ e ∈ ok.after, Region.binds .any e = true -> e.on ≠ i) -> oi.apart ops ok = true := λk ok hk hki hun hno => by
      refine hfree k ok hk hki ?_ hno;by_cases hjk : j = k
      · subst hjk; exact hjun
      rw [getD_set_ne true hjk] at hun; exact hun
    refine wpOpIn_mono (λa' w' h3 => ?_) h2;obtain ⟨hyy, hor, hrest⟩ := h3;have hS' : S w' := hor.resolve_left (by rw [hfin]; simp);exact ⟨.inr hS', ih _ a' w' hfree' (ready_mono hr (Ne.symm hji)) (by rw [C6 hjU]; exact hlv) hyy hS' (by rw [Ab7 _ _ hji]; exact hrest)⟩
end
def Hv (P:Program)(f:FuncId)(n:FN)(R:Ending->World->Prop)(k:List Item)(ops:Array Oper)(S:World->Prop)(U:List Nat)(fuel:Nat)(listed:Array Bool)(ρ:Bd)(w:World):Prop:=
 Lu P ops (IZ P f n R k) S U fuel listed (Ci n ρ) w
section
variable {P :Program}{f:FuncId}{n:FN}{R:Ending->World->Prop}{k:List Item}{ops:Array Oper}{ρ:Bd}{w:World}
variable {dst :Option Nat}{op:Op}{ty:TypeId}{pos:String}{af:Array Edge}{S:World->Prop}{U:List Nat}{fuel:Nat}{listed:Array Bool}
def Ai.drawI {id:Nat}{m:Nat}(U:List Nat)(hm:P.follows .mixedOrders=true)(hsz:ops.size=m)(h:∀w',As w w'->∃S,Hv P f n R k ops S U m (Array.replicate m false) ρ w'):
  Ai P f n R (.code (.region id ops true)::k) ρ w:=by
 subst hsz;obtain⟨S,h⟩:=h _ (Ae.drew _ w);exact Ai.of_wpIn (m:=0) (wpIn_region_any hm (wpAnyIn_of_W _ _ _ _ h))
def Hv.take {v:Value}(i:Nat)(hi:ops[i]? =some ⟨dst,op,ty,pos,af,none⟩)(hb:Ie ops U listed i=true)(hS:S w)
  (hx:∀w,S w->X P n ρ ⟨dst,op,ty,pos,af,none⟩ w v w) (h:Hv P f n R k ops S U fuel (listed.setIfInBounds i true) (Bj ρ dst v) w):
  Hv P f n R k ops S U (fuel+1) listed ρ w:=by
 simp only[Ie,GL,Aao]at hb;obtain⟨⟨⟨⟨h1,h2⟩,h3⟩,h4⟩,h5⟩:=hb;refine NT (v:=v) hi (Region.noSelect_spec h1) (λc a w=>D6 c a w) h4 fuel listed _ w (Region.free_spec hi h2) (by simpa using h3) (by simpa using h5) (.inl ⟨rfl,λw' hw'=> ?_⟩) hS ?_
 ·rw[BF];exact hx w' hw'
 rw[B5];exact h
def Hv.val {v:Value}(i:Nat)(hi:ops[i]? =some ⟨dst,op,ty,pos,af,none⟩)(hr:Region.ready .any ops listed=[i])(hS:CC U (listed.setIfInBounds i true)=true\/S w)
  (hx:X P n ρ ⟨dst,op,ty,pos,af,none⟩ w v w) (h:Hv P f n R k ops S U fuel (listed.setIfInBounds i true) (Bj ρ dst v) w):Hv P f n R k ops S U (fuel+1) listed ρ w:=by
 refine⟨λh0=>(by rw[hr]at h0;cases h0),λj hj=> ?_⟩;rw[hr,Aah]at hj;subst hj;refine NS (S:=λu=>u=w) (v:=v) hi (.inl ⟨rfl,λw' hw'=> ?_⟩) rfl ⟨hS,?_⟩
 ·subst hw';rw[BF];exact hx
 rw[B5];exact h
def Hv.yield {l:Nat}{g:Operand}{ol:List Operand}{ts:Array TypeId}{vals:List Value}{fn:FuncId}{tmps:Array Value}{assign body:Code}{R':Ending->World->Prop}(i:Nat)
  (hi:ops[i]? =some ⟨dst,.call {callee:= .value g,args:=ol.toArray,argTypes:=ts},ty,pos,af,none⟩) (hr:Region.ready .any ops listed=[i])
  (hg:rd n ρ g= .func (.yield l) #[] #[]) (ha:ol.map (rd n ρ)=vals) (hy:(Instr.yield l vals.toArray).run P w= .ok (.round l fn tmps assign body) w)
  (hR:RoundIn Fence.wide 0 P l fn tmps assign body w R')
  (h:∀e w',R' e w'->∃v,e= .returned v/\(CC U (listed.setIfInBounds i true)=true\/S w')/\Hv P f n R k ops S U fuel (listed.setIfInBounds i true) (Bj ρ dst v) w'):Hv P f n R k ops S U (fuel+1) listed ρ w:=by
 refine⟨λh0=>(by rw[hr]at h0;cases h0),λj hj=> ?_⟩;rw[hr,Aah]at hj;subst hj;unfold wpOpW wpOpIn;simp only[hi];rw[if_pos (by rfl)];refine⟨λ_ _=>trivial,?_⟩;have hrun:(execOp (Ci n ρ).eval ⟨dst,.call {callee:= .value g,args:=ol.toArray,argTypes:=ts},ty,pos,af,none⟩).run P w= .ok (.round l fn tmps assign body) w:=by
  rw[BF];simp[execOp,resolve,Sem.run_bind,hg,ha,invoke,Deferred.ofValue,hy]
 rw[show Fence.wide.round=none from rfl,Oper.semAt_none,hrun];refine⟨λh=>absurd h (by simp[Fence.wide]),hR.mono λe w' he=> ?_⟩;obtain⟨v,rfl,h1,h2⟩:=h e w' he;simp only;rw[B5];exact⟨h1,h2⟩
def Hv.done (hr:Region.ready .any ops listed=[])(h:Ai P f n R k ρ w):Hv P f n R k ops S U fuel listed ρ w:=by
 cases fuel with
 |zero=>exact⟨hr,n.ds,ρ,rfl,h⟩
 |succ m=>exact⟨λ_=>⟨n.ds,ρ,rfl,h⟩,by rw[hr];simp⟩
end
end Go.Proofs.YtjkaicjmfgekjaaGreatDoor
