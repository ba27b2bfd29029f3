/-
  Frame
-/
import Derived.Test.YtjkaicjmfgekjaaGreatDoorRows
import Derived.Test.YtjkaicjmfgekjaaGreatDoorPcMem
import Derived.ProofKit
import Derived.OpenShut
import Derived.JoinedCond
import Derived.ChangeSame
import Derived.Carry
set_option linter.all false
namespace Go.Proofs.YtjkaicjmfgekjaaGreatDoor
open Go.RowKit Go.ChangeShapes Go.WideShapes
section
variable {H :Type}{enc:TypeId×Value->H}{P:Program}
def JR (hl : laidOutB P = true) {W W' : World} (hb : Below W.heap.size W W') : ∀ {ts : List TypeId} {vs : List Value} {ds : List (DataW H)} {ps : List MemPlace},
    (∀ t ∈ ts, P.readableRec t = true /\ t < P.types.size) -> DataW.TrodAll enc P W 0 (λ_ => true) true ts vs ds ps -> ∀ sp : Nat -> Bool, (∀ p ∈ ps, sp p.block = true) -> (∀ p ∈ ps, p.block < W.heap.size) ->
    DataW.TrodAll enc P W' 0 sp true ts vs ds ps
  | [], [], [], _, _, h, _, _, _ => h
  | [], [], _ :: _, _, _, h, _, _, _ => h.elim
  | [], _ :: _, _, _, _, h, _, _, _ => h.elim
  | _ :: _, [], _, _, _, h, _, _, _ => h.elim
  | _ :: _, _ :: _, [], _, _, h, _, _, _ => h.elim
  | t :: ts, v :: vs, d :: ds, ps, ht, h, sp, hsp, hlt => by
    obtain ⟨p, q, h1, h2, rfl⟩ := h;have hr := ht t AaC;refine ⟨p, q, WideElems.Trod_stays hl hr.1 hr.2 h1 (λx hx => hb.same (hlt x (AaQ _ hx))) (λx hx => hsp x (AaQ _ hx)), ?_, rfl⟩;exact JR hl hb (λt' ht' => ht t' (Aau _ ht')) h2 sp (λx hx => hsp x (AaR _ hx)) (λx hx => hlt x (AaR _ hx))
def VK {f : Func} {s : ChangeSpec} {apart fresh handsOn again : Bool} {W W' : World} {args : Array Value} {ds : List (DataW H)} {before : List MemPlace} {tb : TypeId}
    (hv : s.vars = []) (hl : laidOutB P = true) (hread : ∀ t ∈ f.params.toList, P.readableRec t = true /\ t < P.types.size)
    (hW : DataW.Whole enc P f.params.toList s.vars apart W args.toList ds [] before) (hs : s.fn H (ds ++ []) = { results := [.lit (.bool true)], args := ds })
    (hrt : f.resultTypes = #[tb]) (htb : P.underlying tb = some .bool) (hext : As W W') : s.post enc P f apart fresh handsOn again W args (.bool true) W' := by
  have hW' := hW;have hb := hext.below;have hlt : ∀ p ∈ before, p.block < W.heap.size := λp hp => hW.lt p hp
  obtain ⟨p, q, hA, hV, rfl, hz, hn⟩ := hW;rw [hv] at hV;have hq : q = [] := hV;subst hq;rw [Aax] at hlt hz hn hW';have hs' : s.fn H (ds ++ []) = { results := [.lit (.bool true)], args := ds } := hs;have hold : ∀ x ∈ p, (λb => decide (b < W.heap.size)) x.block = true := λx hx => by simpa using hlt x hx
  have hargs : ∀ sp : Nat -> Bool, (∀ x ∈ p, sp x.block = true) -> DataW.TrodAll enc P W' 0 sp true f.params.toList args.toList ds p := λsp hsp => JR hl hb hread hA sp hsp hlt
  have hres : ∀ (b : Nat) (sp : Nat -> Bool) (hd : Bool), DataW.TrodAll enc P W' b sp hd f.resultTypes.toList ((Value.bool true).resultList f.resultTypes.size) [.lit (.bool true)] [] := λb sp hd => by
    rw [hrt]; exact trodAll_cons_mk (shut_bool htb _) trodAll_mk0
  refine ⟨ds, [], p, [], p, [], by simpa using hW', by rw [hs']; exact hres _ _ _, by rw [hs']; exact hargs _ hold, ?_, World.keptBut_mono (λx hx => ⟨hx, by simpa using hx⟩) (hb.frame (· ∈ p)), λ_ => ?_⟩
  · rw [hs', hv]; rfl
  refine ⟨?_, [.lit (.bool true)] ++ ds, [], ([] ++ p) ++ [], ⟨[] ++ p, [], ?_, ?_, rfl, ?_, ?_⟩, ?_⟩
  · intro j t r ht hr;rw [hrt] at ht hr;cases j with
    | succ j => simp at ht
    | zero =>
      simp at ht;subst ht;simp [Value.resultList] at hr;subst hr;exact okWide_bool_mk htb _
  · exact trodAll_append (hargs _ (λ_ _ => rfl)) (hres _ _ _)
  · rw [hv]; rfl
  · intro b off hp;have hin : MemPlace.cell b off ∈ p := by simpa using hp
    rw [hb.frozen (hlt _ hin)];exact hz b off hin
  · intro ha;simpa using hn ha
  intro x hx _;simpa using hx
end
def FC (P:Program)(t:TypeId)(α:Type)[Enc α](Q:World->α->Nat->Prop):Prop:=
 ∀(H:Type) (enc:TypeId×Value->H) (W:World) (fuel:Nat) (cs:List Value) (x:DataW H×List MemPlace),DataW.trod enc P W 0 (λ_=>true) true fuel t cs=some x->
  ∃y:α,cs=cellsOf y/\Q W y (Rows.uptoBulk x.1)
def Gj {H:Type}(d:DataW H):1<=Rows.uptoBulk d:=by
 cases d with
 |lit l=>cases l<;>simp[Rows.uptoBulk]
 |_=>simp[Rows.uptoBulk]
def Pn {H : Type} {d : DataW H} {l : List (DataW H)} (h : d ∈ l) : Rows.uptoBulk d <= Rows.uptoBulkAll l := by
  induction l with
  | nil => cases h
  | cons x r ih =>
    simp only [Rows.uptoBulkAll];rcases List.mem_cons.1 h with rfl | h
    · omega
    have := ih h; omega
def Po {H:Type}(l:List (DataW H)):l.length<=Rows.uptoBulkAll l:=by
 induction l with
 |nil=>simp
 |cons x r ih=>have:=Gj x;simp only[Rows.uptoBulkAll,Aaj];omega
def i64 (n:Int):Prop:= -9223372036854775808<=n/\n<=9223372036854775807
def Tm {n:Int}(h:(Lit.int .i64 n).wf=true):i64 n:=by
 simp only[Lit.wf,Aao,decide_eq_true_eq]at h;have e1:IntKind.i64.min= -9223372036854775808:=rfl;have e2:IntKind.i64.max=9223372036854775807:=rfl;rw[e1,e2]at h;exact h
def DL {P:Program}{t:TypeId}(ht:P.underlying t=some (.int .i64)):FC P t Int (λ_ n m=>i64 n/\1<=m):=by
 intro H enc W fuel cs x h;obtain⟨n,rfl,rfl,hw⟩:=DataW.trod_int ht h;exact⟨n,rfl,Tm hw,Gj _⟩
def Tn {P:Program}{t:TypeId}(ht:P.underlying t=some (.int .u64)):FC P t jq (λ_ n m=>(0<=n.v/\n.v<=18446744073709551615)/\1<=m):=by
 intro H enc W fuel cs x h;obtain⟨n,rfl,rfl,hw⟩:=DataW.trod_int ht h;refine⟨⟨n⟩,rfl,?_,Gj _⟩;simp only[Lit.wf,Aao,decide_eq_true_eq]at hw;have e1:IntKind.u64.min=0:=rfl;have e2:IntKind.u64.max=18446744073709551615:=rfl;rw[e1,e2]at hw;exact hw
def IN {P:Program}{t:TypeId}(ht:P.underlying t=some .string):FC P t ByteArray (λ_ s m=>s.size+1<=m):=by
 intro H enc W fuel cs x h;obtain⟨s,rfl,rfl,hw⟩:=DataW.trod_string ht h;refine⟨s,rfl,?_⟩;simp only[Rows.uptoBulk,AaA];exact Aac _
def jh {α:Type}[Enc α](Q:World->α->Nat->Prop)(W:World)(s:SH)(xs:List α)(m:Nat):Prop:=
 s.len=xs.length/\Ax W s.a xs/\xs.length+1<=m/\(∀x∈xs,∃k,k+1<=m/\Q W x k)/\(∀x,s.a=some x->x.block<W.heap.size\/xs=[])
def Pp (a:Addr)(m j:Nat):(a.add m).add j=a.add (m+j):=by
 unfold Addr.add;by_cases h1:m=0
 ·subst h1;simp
 by_cases h2:j=0
 ·subst h2;simp
 simp[h1,h2,Abs]
def Hb {P : Program} {t e : TypeId} {α : Type} [Enc α] {Q : World -> α -> Nat -> Prop} (ht : P.underlying t = some (.slice e)) (hc : P.cellsOf e = Enc.size α) (hr : FC P e α Q) :
    FC P t SH (λW s m => ∃ xs : List α, jh Q W s xs m) := by
  intro H enc W fuel cs x h;rcases DataW.trod_slice ht h with ⟨rfl, rfl⟩ | ⟨a, len, cap, elems, rest, n, _, rfl, rfl, hb, hl, hm, hlen, hel, -, -⟩
  · exact ⟨⟨none, 0, 0⟩, rfl, [], rfl, Ax.nil _ _, Gj _, (λx hx => by cases hx), λ_ _ => Or.inr rfl⟩
  have key : ∀ i, i < len -> ∃ y : α, ∃ z, elems[i]? = some z /\ Q W y (Rows.uptoBulk z.1) /\ ∀ j v, (cellsOf y)[j]? = some v -> W.cell? (a.add (i * Enc.size α + j)) = some v := by
    intro i hi;have h1 := hel i hi;rw [List.getElem?_eq_getElem Zo] at h1 ⊢;cases hcs : W.cells? 0 (a.add (i * P.cellsOf e)) (P.cellsOf e) with
    | none => rw [hcs] at h1; cases h1
    | some cs =>
      rw [hcs] at h1;obtain ⟨y, rfl, hq⟩ := hr H enc W n cs _ h1;refine ⟨y, _, rfl, hq, λj v hv => ?_⟩;have h3 := World.cells?_some hcs;have hj : j < P.cellsOf e := by rw [hc, <- AI y]; exact (List.getElem?_eq_some_iff.1 hv).1
      have h4 := h3.2.2 j hj;rw [hv, hc] at h4;rw [<- h4];rw [Pp]
  have hxs : ∃ xs : List α, xs.length = len /\ ∀ i, i < len -> ∃ y z, xs[i]? = some y /\ elems[i]? = some z /\ Q W y (Rows.uptoBulk z.1) /\ ∀ j v, (cellsOf y)[j]? = some v -> W.cell? (a.add (i * Enc.size α + j)) = some v := by
    clear hel hlen h hl;induction len with
    | zero => exact ⟨[], rfl, λi hi => absurd hi (Abh _)⟩
    | succ len ih =>
      obtain ⟨xs, hlx, hx⟩ := ih (λi hi => key i Zo);obtain ⟨y, z, hz, hq, hcell⟩ := key len Zo;refine ⟨xs ++ [y], by simp [hlx], λi hi => ?_⟩;by_cases e : i = len
      · subst e; exact ⟨y, z, by rw [Ab4 Zo]; simp [hlx], hz, hq, hcell⟩
      obtain ⟨y', z', h1, h2⟩ := hx i Zo;exact ⟨y', z', by rw [Ack Zo]; exact h1, h2⟩
  obtain ⟨xs, hlx, hx⟩ := hxs;have hpos := Enc.pos (α := α);have hsl : Ax W (some a) xs /\ (a.block < W.heap.size \/ xs = []) := by
    by_cases h0 : len = 0
    · have : xs = [] := AaM Zo;exact ⟨.inl this, .inr this⟩
    -- the block is there
    obtain ⟨y, z, _, _, _, hcell⟩ := hx 0 Zo;have hy : 0 < (cellsOf y).length := by rw [AI]; exact hpos
    have hc0 := hcell 0 _ (List.getElem?_eq_getElem hy);simp only [Nat.zero_mul, Aaq, Addr.add, if_true] at hc0;have hblk := World.block_lt_of_cell? W a hc0;unfold World.cell? at hc0;cases hh : W.heap[a.block]? with
    | none => rw [hh] at hc0; cases hc0
    | some ob =>
      rw [hh] at hc0;cases ob with
      | cells c T fr =>
        simp only at hc0;have hsp : a.spot = none := by
          cases hs : a.spot with
          | none => rfl
          | some q => rw [hs] at hc0; simp at hc0
        obtain ⟨bk, off, sp⟩ := a;simp only at hsp hh hblk;subst hsp;refine ⟨.inr ⟨bk, off, rfl, c, T, fr, hh, λj v hv => ?_⟩, .inl hblk⟩
        -- which element
        have hj : j < xs.length * Enc.size α := by rw [<- AH]; exact (List.getElem?_eq_some_iff.1 hv).1
        have hi : j / Enc.size α < len := by rw [<- hlx]; exact Nat.div_lt_of_lt_mul (by rw [Abc]; exact hj)
        obtain ⟨y, _, hy1, _, _, hcell⟩ := hx (j / Enc.size α) hi;obtain ⟨hlt, rfl⟩ := List.getElem?_eq_some_iff.1 hy1;have hm := Abb j hpos;have hl2 := AI xs[j / Enc.size α];have hg := GT xs (j / Enc.size α) hlt (j % Enc.size α) _ (List.getElem?_eq_getElem (by rw [hl2]; exact hm));have ej : j / Enc.size α * Enc.size α + j % Enc.size α = j := by rw [Abc]; exact Nat.div_add_mod j _
        rw [ej, hv] at hg;have hc := hcell (j % Enc.size α) v (by rw [List.getElem?_eq_getElem (by rw [hl2]; exact hm)]; exact hg.symm);rw [ej, Addr.add_lit] at hc;simpa [World.cell?, hh] using hc
      | _ => cases hc0
  refine ⟨⟨some a, len, cap⟩, rfl, xs, hlx.symm, hsl.1, ?_, ?_, ?_⟩
  · have h1 := Po (elems.map (·.1));simp only [Rows.uptoBulk, Aad] at h1 ⊢;omega
  · intro x hxm;obtain ⟨i, hi, rfl⟩ := AaI hxm;obtain ⟨y, z, h1, h2, h3, _⟩ := hx i Zo;have hxy : xs[i] = y := by rw [List.getElem?_eq_getElem hi] at h1; exact Option.some.inj h1
    refine ⟨Rows.uptoBulk z.1, ?_, hxy ▸ h3⟩;have h4 := Pn (List.mem_map_of_mem (f := (·.1)) (Aan h2));simp only [Rows.uptoBulk];omega
  intro x hx';simp only [Option.some.injEq] at hx';subst hx';exact hsl.2
abbrev IntQ (_:World)(n:Int)(m:Nat):Prop:=i64 n/\1<=m
abbrev iq (_:World)(s:ByteArray)(m:Nat):Prop:=s.size+1<=m
abbrev BoolQ (_:World)(_:Bool)(m:Nat):Prop:=1<=m
abbrev R5 {α:Type}[Enc α](Q:World->α->Nat->Prop)(W:World)(s:SH)(m:Nat):Prop:=∃xs:List α,jh Q W s xs m
def EB (cs:List Value)(o k:Nat):cs.drop o=(cs.drop o).take k++cs.drop (o+k):=by
 rw[<-Aa6,AbK]
instance : Enc Bool where
 val b:= .bool b
 size:=1
 agg:=false
 shape _:=⟨λh=>(by cases h),λ_=>⟨rfl,rfl⟩⟩
 plain _ v hv:=by simp[Value.cells]at hv;subst hv;rfl
 pos:=by decide
section
variable {H :Type}{enc:TypeId×Value->H}{P:Program}{W:World}{base:Nat}{t:TypeId}{v:Value}{d:DataW H}{ps:List MemPlace}
def To {α:Type}[Enc α]{Q:World->α->Nat->Prop}(hr:FC P t α Q)(hv:v.oneCell'=true)(ha:Enc.agg α=false)(h:DataW.Trod enc P W 0 (λ_=>true) true t v d ps):∃y:α,v=Enc.val y/\Q W y (Rows.uptoBulk d):=by
 obtain⟨fuel,hf⟩:=h;obtain⟨y,hy,hq⟩:=hr H enc W fuel _ _ hf;refine⟨y,?_,hq⟩;rw[FX hv,cellsOf,FX ((Enc.shape y).2 ha).1]at hy;simpa using hy
def Pq {e:TypeId}{Q:World->SH->Nat->Prop}(ht:P.underlying t=some (.slice e))(hr:FC P t SH Q)(hok:Value.okWide P W .any base t v)(h:DataW.Trod enc P W 0 (λ_=>true) true t v d ps):
  ∃s:SH,v= .slice s.a s.len s.cap/\Q W s (Rows.uptoBulk d):=by
 obtain⟨a,len,cap,rfl⟩:=okWide_slice ht hok;exact To hr rfl rfl h
end
end Go.Proofs.YtjkaicjmfgekjaaGreatDoor
