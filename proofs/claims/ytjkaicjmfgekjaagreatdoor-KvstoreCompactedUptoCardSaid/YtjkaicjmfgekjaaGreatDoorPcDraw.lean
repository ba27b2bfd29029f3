/-
  Draw
-/
import Derived.Test.YtjkaicjmfgekjaaGreatDoorPcSlices
set_option linter.all false
namespace Go.Proofs.YtjkaicjmfgekjaaGreatDoor
def CC (V:List Nat)(listed:Array Bool):Bool:=V.any λj=>listed.getD j false
def vB (ops:Array Oper)(V:List Nat)(i:Nat):Bool:=
 !V.contains i&&V.all λj=>match ops[j]? with|some oj=>oj.after.any λe=>Region.binds .any e&&e.on==i|none=>true
section
variable {P :Program}{ops:Array Oper}{Q:Exit->Act->World->Prop}{S:World->Prop}{U:List Nat}
def Rb {i j:Nat}{oj:Oper}(h:vB ops U i=true)(hj:ops[j]? =some oj)(hno:∀e∈oj.after,Region.binds .any e=true->e.on≠i):i∉U/\j∉U:=by
 simp only[vB,Aao,AaH,AbS]at h;refine⟨by simpa using h.1,λhm=> ?_⟩;have h1:=h.2 j hm;simp only[hj]at h1;obtain⟨e,he,hb⟩:=Array.any_eq_true'.1 h1;simp only[Aao,beq_iff_eq]at hb;exact hno e he hb.1 hb.2
def C6 {i:Nat}{l:Array Bool}(hi:i∉U):CC U (l.setIfInBounds i true)=CC U l:=by
 rw[AaD];simp only[CC,Abj];constructor
 ·rintro⟨j,hj,h⟩;rw[getD_set_ne false (show i≠j from λe=>hi (by rw[e];exact hj))]at h;exact⟨j,hj,h⟩
 rintro⟨j,hj,h⟩;refine⟨j,hj,?_⟩;rw[getD_set_ne false (show i≠j from λe=>hi (by rw[e];exact hj))];exact h
def HP (P : Program) (ops : Array Oper) (Q : Exit -> Act -> World -> Prop) (S : World -> Prop) (U : List Nat) : Nat -> Array Bool -> Act -> World -> Prop
  | 0, listed, a, w => Region.ready .any ops listed = [] /\ Q .normal a w
  | fuel + 1, listed, a, w =>
    (Region.ready .any ops listed = [] -> Q .normal a w) /\
    ∀ i ∈ Region.ready .any ops listed, wpOp P ops Q i (λa' w' => (CC U (listed.setIfInBounds i true) = true \/ S w') /\ HP P ops Q S U fuel (listed.setIfInBounds i true) a' w') a w
def wpAny_of_T :∀(fuel:Nat) (listed:Array Bool) (a:Act) (w:World),HP P ops Q S U fuel listed a w->wpAny P .any ops Q fuel listed a w
 |0,_,_,_,h=>h
 |fuel+1,_,_,_,h=>⟨h.1,λi hi=>wpOp_mono (λa' w' h'=>wpAny_of_T fuel _ a' w' h'.2) (h.2 i hi)⟩
def Ic {i : Nat} {oi : Oper} {v : Value} (hi : ops[i]? = some oi) (hsel : ∀ (j : Nat) (o : Oper) cs b, ops[j]? = some o -> o.op ≠ .select cs b)
    (hQ : ∀ c a w, Q (.panic c) (a.put oi.dst v) w -> Q (.panic c) a w) (hU : vB ops U i = true) :
    ∀ (fuel : Nat) (listed : Array Bool) (a : Act) (w : World),
      (∀ j oj, ops[j]? = some oj -> j ≠ i -> listed.getD j true = false -> (∀ e ∈ oj.after, Region.binds .any e = true -> e.on ≠ i) -> oi.apart ops oj = true) ->
      i ∈ Region.ready .any ops listed -> CC U listed = false -> YieldsIf P ops S oi v a -> S w ->
      HP P ops Q S U fuel (listed.setIfInBounds i true) (a.put oi.dst v) w -> HP P ops Q S U (fuel + 1) listed a w := by
  intro fuel;induction fuel with
  | zero =>
    intro listed a w _ hr _ hy hS H;refine ⟨λh => (by rw [h] at hr; cases hr), λj hj => ?_⟩;by_cases hji : j = i
    · subst hji; exact hy.wpOp hi hS ⟨.inr hS, H⟩
    have := ready_mono hj hji;rw [H.1] at this;cases this
  | succ fuel ih =>
    intro listed a w hfree hr hlv hy hS H;refine ⟨λh => (by rw [h] at hr; cases hr), λj hj => ?_⟩;by_cases hji : j = i
    · subst hji; exact hy.wpOp hi hS ⟨.inr hS, H⟩
    have h1 := H.2 j (ready_mono hj hji);obtain ⟨hjun, oj, hoj, hall⟩ := mem_ready.1 hj;have hi0 := (mem_ready.1 hr).1;have hnot : ∀ e ∈ oj.after, Region.binds .any e = true -> e.on ≠ i := λe he hb heq => by
      have h1 := hall e he hb;rw [heq] at h1;rcases Abn i listed.size with h' | h'
      · simp [h'] at hi0 h1; rw [hi0] at h1; cases h1
      simp [AbT h'] at h1
    obtain ⟨hiU, hjU⟩ := Rb hU hoj hnot;have hfin : CC U ((listed.setIfInBounds i true).setIfInBounds j true) = false := by rw [C6 hjU, C6 hiU]; exact hlv
    have h2 := wpOp_putIf (S := S) hoj (hfree j oj hoj hji hjun hnot) (λcs b => hsel i oi cs b hi) (λcs b => hsel j oj cs b hoj) hQ hy h1;have hfree' : ∀ k ok, ops[k]? = some ok -> k ≠ i -> (listed.setIfInBounds j true).getD k true = false ->
        (∀ e ∈ ok.after, Region.binds .any e = true -> e.on ≠ i) -> oi.apart ops ok = true := λk ok hk hki hun hno => by
      refine hfree k ok hk hki ?_ hno;by_cases hjk : j = k
      · subst hjk; exact hjun
      rw [getD_set_ne true hjk] at hun; exact hun
    refine wpOp_mono (λa' w' h3 => ?_) h2;obtain ⟨hyy, hor, hrest⟩ := h3;have hS' : S w' := hor.resolve_left (by rw [hfin]; simp);exact ⟨.inr hS', ih _ a' w' hfree' (ready_mono hr (Ne.symm hji)) (by rw [C6 hjU]; exact hlv) hyy hS' (by rw [Ab7 _ _ hji]; exact hrest)⟩
def JD {i : Nat} {oi : Oper} {v : Value} (hi : ops[i]? = some oi) (hsel : ∀ (j : Nat) (o : Oper) cs b, ops[j]? = some o -> o.op ≠ .select cs b)
    (hQ : ∀ c a w, Q (.panic c) (a.put oi.dst v) w -> Q (.panic c) a w) (hiU : i ∉ U) :
    ∀ (fuel : Nat) (listed : Array Bool) (a : Act) (w : World),
      (∀ j oj, ops[j]? = some oj -> j ≠ i -> listed.getD j true = false -> (∀ e ∈ oj.after, Region.binds .any e = true -> e.on ≠ i) -> oi.apart ops oj = true) ->
      i ∈ Region.ready .any ops listed -> YieldsIf P ops (λ_ => True) oi v a -> (CC U listed = true \/ S w) ->
      HP P ops Q S U fuel (listed.setIfInBounds i true) (a.put oi.dst v) w -> HP P ops Q S U (fuel + 1) listed a w := by
  intro fuel;induction fuel with
  | zero =>
    intro listed a w _ hr hy hS H;refine ⟨λh => (by rw [h] at hr; cases hr), λj hj => ?_⟩;by_cases hji : j = i
    · subst hji; exact hy.wpOp hi trivial ⟨by rw [C6 hiU]; exact hS, H⟩
    have := ready_mono hj hji;rw [H.1] at this;cases this
  | succ fuel ih =>
    intro listed a w hfree hr hy hS H;refine ⟨λh => (by rw [h] at hr; cases hr), λj hj => ?_⟩;by_cases hji : j = i
    · subst hji; exact hy.wpOp hi trivial ⟨by rw [C6 hiU]; exact hS, H⟩
    have h1 := H.2 j (ready_mono hj hji);obtain ⟨hjun, oj, hoj, hall⟩ := mem_ready.1 hj;have hi0 := (mem_ready.1 hr).1;have hnot : ∀ e ∈ oj.after, Region.binds .any e = true -> e.on ≠ i := λe he hb heq => by
      have h1 := hall e he hb;rw [heq] at h1;rcases Abn i listed.size with h' | h'
      · simp [h'] at hi0 h1; rw [hi0] at h1; cases h1
      simp [AbT h'] at h1
    have h2 := wpOp_putIf (S := λ_ => True) hoj (hfree j oj hoj hji hjun hnot) (λcs b => hsel i oi cs b hi) (λcs b => hsel j oj cs b hoj) hQ hy h1;have hfree' : ∀ k ok, ops[k]? = some ok -> k ≠ i -> (listed.setIfInBounds j true).getD k true = false ->
        (∀ e ∈ ok.after, Region.binds .any e = true -> e.on ≠ i) -> oi.apart ops ok = true := λk ok hk hki hun hno => by
      refine hfree k ok hk hki ?_ hno;by_cases hjk : j = k
      · subst hjk; exact hjun
      rw [getD_set_ne true hjk] at hun; exact hun
    refine wpOp_mono (λa' w' h3 => ?_) h2;obtain ⟨hyy, hor, hrest⟩ := h3;rw [Ab7 _ _ (Ne.symm hji), C6 hiU] at hor;exact ⟨hor, ih _ a' w' hfree' (ready_mono hr (Ne.symm hji)) hyy hor (by rw [Ab7 _ _ hji]; exact hrest)⟩
end
def RT (P:Program)(f:FuncId)(n:FN)(R:Ending->World->Prop)(k:List Item)(ops:Array Oper)(S:World->Prop)(U:List Nat)(fuel:Nat)(listed:Array Bool)(ρ:Bd)(w:World):Prop:=
 HP P ops (IZ P f n R k) S U fuel listed (Ci n ρ) w
section
variable {P :Program}{f:FuncId}{n:FN}{R:Ending->World->Prop}{k:List Item}{ops:Array Oper}{ρ:Bd}{w:World}
variable {dst :Option Nat}{op:Op}{ty:TypeId}{pos:String}{af:Array Edge}{S:World->Prop}{U:List Nat}{fuel:Nat}{listed:Array Bool}
def Ai.drawT {id:Nat}{m:Nat}(U:List Nat)(hm:P.follows .mixedOrders=true)(hsz:ops.size=m)(h:∀w',As w w'->∃S,RT P f n R k ops S U m (Array.replicate m false) ρ w'):
  Ai P f n R (.code (.region id ops true)::k) ρ w:=by
 subst hsz;obtain⟨S,h⟩:=h _ (Ae.drew _ w);exact Ai.of_wp (wp_region_any hm (wpAny_of_T _ _ _ _ h))
def Ie (ops:Array Oper)(U:List Nat)(listed:Array Bool)(i:Nat):Bool:=GL ops listed i&&vB ops U i&& !CC U listed
def Kz (ops:Array Oper)(U:List Nat)(listed:Array Bool)(i:Nat):Bool:=GL ops listed i&& !U.contains i
def RT.take {v:Value}(i:Nat)(hi:ops[i]? =some ⟨dst,op,ty,pos,af,none⟩)(hb:Ie ops U listed i=true)(hS:S w)
  (hx:∀w,S w->X P n ρ ⟨dst,op,ty,pos,af,none⟩ w v w) (h:RT P f n R k ops S U fuel (listed.setIfInBounds i true) (Bj ρ dst v) w):
  RT P f n R k ops S U (fuel+1) listed ρ w:=by
 simp only[Ie,GL,Aao]at hb;obtain⟨⟨⟨⟨h1,h2⟩,h3⟩,h4⟩,h5⟩:=hb;refine Ic (v:=v) hi (Region.noSelect_spec h1) (λc a w=>D6 c a w) h4 fuel listed _ w (Region.free_spec hi h2) (by simpa using h3) (by simpa using h5) (.inl ⟨rfl,λw' hw'=> ?_⟩) hS ?_
 ·rw[BF];exact hx w' hw'
 rw[B5];exact h
def RT.gtake {v:Value}{c:Bool}{g:Option (Nat×Bool)}(i:Nat)(hi:ops[i]? =some ⟨dst,op,ty,pos,af,g⟩)(hb:Ie ops U listed i=true)(hS:S w)
  (hw:Region.wanted ⟨dst,op,ty,pos,af,g⟩ (yielded ops (Ci n ρ).tmps)=c)
  (hx:c=true->∀w,S w->X P n ρ ⟨dst,op,ty,pos,af,none⟩ w v w) (h:RT P f n R k ops S U fuel (listed.setIfInBounds i true) (Bj ρ dst (gv c v)) w):
  RT P f n R k ops S U (fuel+1) listed ρ w:=by
 simp only[Ie,GL,Aao]at hb;obtain⟨⟨⟨⟨h1,h2⟩,h3⟩,h4⟩,h5⟩:=hb;refine Ic (v:=gv c v) hi (Region.noSelect_spec h1) (λc a w=>D6 c a w) h4 fuel listed _ w (Region.free_spec hi h2) (by simpa using h3) (by simpa using h5) ?_ hS ?_
 ·cases c with
  |true=>exact .inl ⟨hw,λw' hw'=>by rw[BF];exact hx rfl w' hw'⟩
  |false=>exact .inr ⟨hw,rfl⟩
 rw[B5];exact h
def RT.takeP {v:Value}(i:Nat)(hi:ops[i]? =some ⟨dst,op,ty,pos,af,none⟩)(hb:Kz ops U listed i=true)(hS:CC U listed=true\/S w)
  (hx:∀w,X P n ρ ⟨dst,op,ty,pos,af,none⟩ w v w) (h:RT P f n R k ops S U fuel (listed.setIfInBounds i true) (Bj ρ dst v) w):
  RT P f n R k ops S U (fuel+1) listed ρ w:=by
 simp only[Kz,GL,Aao]at hb;obtain⟨⟨⟨h1,h2⟩,h3⟩,h4⟩:=hb;refine JD (v:=v) hi (Region.noSelect_spec h1) (λc a w=>D6 c a w) (by simpa using h4) fuel listed _ w (Region.free_spec hi h2) (by simpa using h3) (.inl ⟨rfl,λw' _=> ?_⟩) hS ?_
 ·rw[BF];exact hx w'
 rw[B5];exact h
def RT.gtakeP {v:Value}{c:Bool}{g:Option (Nat×Bool)}(i:Nat)(hi:ops[i]? =some ⟨dst,op,ty,pos,af,g⟩)(hb:Kz ops U listed i=true)(hS:CC U listed=true\/S w)
  (hw:Region.wanted ⟨dst,op,ty,pos,af,g⟩ (yielded ops (Ci n ρ).tmps)=c)
  (hx:c=true->∀w,X P n ρ ⟨dst,op,ty,pos,af,none⟩ w v w) (h:RT P f n R k ops S U fuel (listed.setIfInBounds i true) (Bj ρ dst (gv c v)) w):
  RT P f n R k ops S U (fuel+1) listed ρ w:=by
 simp only[Kz,GL,Aao]at hb;obtain⟨⟨⟨h1,h2⟩,h3⟩,h4⟩:=hb;refine JD (v:=gv c v) hi (Region.noSelect_spec h1) (λc a w=>D6 c a w) (by simpa using h4) fuel listed _ w (Region.free_spec hi h2) (by simpa using h3) ?_ hS ?_
 ·cases c with
  |true=>exact .inl ⟨hw,λw' _=>by rw[BF];exact hx rfl w'⟩
  |false=>exact .inr ⟨hw,rfl⟩
 rw[B5];exact h
def RT.one (i:Nat){o:Oper}(hi:ops[i]? =some o)(hr:Region.ready .any ops listed=[i])
  (h:wpOp P ops (IZ P f n R k) i (λa' w'=>∃ρ',a'=Ci n ρ'/\(CC U (listed.setIfInBounds i true)=true\/S w')/\RT P f n R k ops S U fuel (listed.setIfInBounds i true) ρ' w') (Ci n ρ) w):
  RT P f n R k ops S U (fuel+1) listed ρ w:=by
 refine⟨λh0=>(by rw[hr]at h0;cases h0),λj hj=> ?_⟩;rw[hr,Aah]at hj;subst hj;refine wpOp_mono (λa' w' h'=> ?_) h;obtain⟨ρ',rfl,h1,h2⟩:=h';exact⟨h1,h2⟩
def RT.st (i:Nat){o:Oper}(hi:ops[i]? =some o)(hr:Region.ready .any ops listed=[i])(hg:o.guard=none)
  (h:AB P f n R k o ρ w (λρ' w'=>(CC U (listed.setIfInBounds i true)=true\/S w')/\RT P f n R k ops S U fuel (listed.setIfInBounds i true) ρ' w')):RT P f n R k ops S U (fuel+1) listed ρ w:=by
 refine RT.one i hi hr ?_;unfold wpOp;simp only[hi,Region.wanted,hg,if_true];exact .inl h
def RT.gT {o:Oper}(i:Nat)(hi:ops[i]? =some o)(hr:Region.ready .any ops listed=[i])(hw:Region.wanted o (yielded ops (Ci n ρ).tmps)=false)(hS:CC U (listed.setIfInBounds i true)=true\/S w)
  (h:RT P f n R k ops S U fuel (listed.setIfInBounds i true) (Bj ρ o.dst undef) w):RT P f n R k ops S U (fuel+1) listed ρ w:=by
 refine RT.one i hi hr ?_;unfold wpOp;simp only[hi,hw,Abk,if_false,B5];exact⟨_,rfl,hS,h⟩
def RT.gcall {c : Bool} {g : FuncId} {ol : List Operand} {ts : Array TypeId} {vals : List Value} {v : Value} {gd : Option (Nat × Bool)} (i : Nat)
    (hi : ops[i]? = some ⟨dst, .call { callee := .value (.func g), args := ol.toArray, argTypes := ts }, ty, pos, af, gd⟩) (hr : Region.ready .any ops listed = [i])
    (hw : Region.wanted ⟨dst, .call { callee := .value (.func g), args := ol.toArray, argTypes := ts }, ty, pos, af, gd⟩ (yielded ops (Ci n ρ).tmps) = c) (he : DQ P g)
    (ha : c = true -> ol.map (rd n ρ) = vals) (hc : c = true -> Calls P g vals.toArray w (AU λu w' => u = v /\ As w w'))
    (h : ∀ w', As w w' -> (CC U (listed.setIfInBounds i true) = true \/ S w') /\ RT P f n R k ops S U fuel (listed.setIfInBounds i true) (Bj ρ dst (gv c v)) w') :
    RT P f n R k ops S U (fuel + 1) listed ρ w := by
  cases c with
  | false => obtain ⟨h1, h2⟩ := h w (Ae.refl _ w); exact RT.gT i hi hr hw h1 h2
  | true =>
    refine RT.one i hi hr ?_;unfold wpOp;simp only [hi, hw, if_true];refine .inl ?_;simp only [Oper.wp, BF];rw [T7 he (ha rfl)];simp only [Oper.upon];refine (hc rfl).mono ?_;rintro e w' ⟨u, rfl, rfl, hΦ⟩;simp only [B5];exact ⟨_, rfl, h w' hΦ⟩
def RT.done (hr:Region.ready .any ops listed=[])(h:Ai P f n R k ρ w):RT P f n R k ops S U fuel listed ρ w:=by
 cases fuel with
 |zero=>exact⟨hr,n.ds,ρ,rfl,h⟩
 |succ m=>exact⟨λ_=>⟨n.ds,ρ,rfl,h⟩,by rw[hr];simp⟩
end
end Go.Proofs.YtjkaicjmfgekjaaGreatDoor
