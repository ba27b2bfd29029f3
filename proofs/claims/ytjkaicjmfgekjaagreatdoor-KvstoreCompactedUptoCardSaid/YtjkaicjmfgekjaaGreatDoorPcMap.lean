/-
  Map
-/
import Derived.Test.YtjkaicjmfgekjaaGreatDoorPcLoop
import Derived.Laws.IdiomRangeMap
import Derived.MapKept
import Derived.Lib.AppendZerosOnto
set_option linter.all false
namespace Go.Proofs.YtjkaicjmfgekjaaGreatDoor
def DD {α β:Type}(f:α->β):∀(l:List α) (i:Nat),(l.eraseIdx i).map f=(l.map f).eraseIdx i
 |[],_=>rfl
 |_::_,0=>rfl
 |x::l,i+1=>by simp[DD f l i]
def BB {N r:Nat}(h:N<=r):∀q,one r q->N<=q:=λq e=>by rw[show q=r from e];exact h
def DA {κ:Type}[DecidableEq κ](a:κ):List (κ×Value)->Nat->Option (Nat×Value)
 |[],_=>none
 |p::ps,i=>if a=p.1 then some (i,p.2)else DA a ps (i+1)
class MKey (κ:Type)[DecidableEq κ] where
 enc:κ->Value
 desc:Program->TypeId->TypeDesc->Prop
 check:∀{P:Program} {k:TypeId} {d:TypeDesc},P.underlying k=some d->desc P k d->∀(a:κ) (e:Bool) (n:Nat) (w:World),(Instr.checkKey e (n+2) k (enc a)).run P w= .ok () w
 find:∀{P:Program} {k:TypeId} {d:TypeDesc},P.underlying k=some d->desc P k d->∀(a:κ) (es:List MapEntry) (ps:List (κ×Value)) (w:World),es.map (λe=>(e.key,e.val))=ps.map (λp=>(enc p.1,p.2))->(Instr.findKey k (enc a) es).run P w= .ok (DA a ps 0) w
 stays:∀(P:Program) (w:World) (a:κ),(Instr.keyThatStays (enc a) (enc a)).run P w= .ok (enc a) w
def KD {κ : Type} [DecidableEq κ] {enc : κ -> Value} {d : TypeDesc} (hs : ∀ a b, Instr.sameNow d (enc a) (enc b) = some (decide (a = b))) (a : κ) : ∀ (es : List MapEntry) (ps : List (κ × Value)) (i : Nat), es.map (λe => (e.key, e.val)) = ps.map (λp => (enc p.1, p.2)) -> Instr.findNow d (enc a) es i = some (DA a ps i)
  | [], [], _, _ => rfl
  | [], _ :: _, _, h => by simp at h
  | _ :: _, [], _, h => by simp at h
  | e :: es, p :: ps, i, h => by
    simp only [Aaf, List.cons.injEq, Prod.mk.injEq] at h;obtain ⟨⟨h1, h2⟩, h3⟩ := h;unfold Instr.findNow DA;rw [h1, hs a p.1];by_cases hc : a = p.1
    · simp [hc, h2]
    simp only [hc, decide_false, if_false];exact KD hs a es ps (i + 1) h3
def Rg {κ:Type}[DecidableEq κ]{enc:κ->Value}{d:TypeDesc}(hk:∀a,MapKept.IsKey d (enc a))(inj:∀a b,enc a=enc b->a=b)(a b:κ):Instr.sameNow d (enc a) (enc b)=some (decide (a=b)):=by
 obtain⟨r,hr,hi⟩:=MapKept.sameNow_of_keys (hk a) (hk b);rw[hr];congr 1;rw[AaD,hi,decide_eq_true_eq];exact⟨inj a b,λe=>by rw[e]⟩
def Rh {κ:Type}[DecidableEq κ]{enc:κ->Value}{P:Program}{k:TypeId}{d:TypeDesc}(hk:P.underlying k=some d)(hs:∀a b,Instr.sameNow d (enc a) (enc b)=some (decide (a=b)))(a:κ)(es:List MapEntry)(ps:List (κ×Value))(w:World)(h:es.map (λe=>(e.key,e.val))=ps.map (λp=>(enc p.1,p.2))):
  (Instr.findKey k (enc a) es).run P w= .ok (DA a ps 0) w:=by
 simp[Instr.findKey,run_underlying hk,KD hs a es ps 0 h,Result.andThen]
instance : MKey ByteArray where
 enc s:= .string s
 desc _ _ d:=d= .string
 check hk hd a e n w:=by subst hd;exact MapKept.run_checkKey (w:=w) hk (show MapKept.IsKey .string (.string a)from trivial) e (n+1)
 find hk hd a es ps w h:=by subst hd;exact Rh (enc:=λs:ByteArray=> .string s) hk (Rg (enc:=λs:ByteArray=> .string s) (λ_=>trivial) (λa b h=>by injection h)) a es ps w h
 stays P w a:=MapKept.run_keyThatStays (P:=P) (w:=w) (d:= .string) (show MapKept.IsKey .string (.string a)from trivial)
instance : MKey Int where
 enc n:= .int .i64 n
 desc _ _ d:=d= .int .i64
 check hk hd a e n w:=by subst hd;exact MapKept.run_checkKey (w:=w) hk (show MapKept.IsKey (.int .i64) (.int .i64 a)from rfl) e (n+1)
 find hk hd a es ps w h:=by subst hd;exact Rh (enc:=λn:Int=> .int .i64 n) hk (Rg (enc:=λn:Int=> .int .i64 n) (λ_=>rfl) (λa b h=>by injection h)) a es ps w h
 stays P w a:=MapKept.run_keyThatStays (P:=P) (w:=w) (d:= .int .i64) (show MapKept.IsKey (.int .i64) (.int .i64 a)from rfl)
section
variable {κ :Type}
def BU [DecidableEq κ](ps:List (κ×Value))(a:κ):Option Value:=(ps.find? (λp=>decide (a=p.1))).map (·.2)
structure Aq [DecidableEq κ][MKey κ](w:World)(m:Nat)(ps:List (κ×Value)):Prop where
 ex:∃(es:Array MapEntry) (clock:Nat),w.heap[m]? =some (.map es clock)/\es.toList.map (λe=>(e.key,e.val))=ps.map (λp=>(MKey.enc p.1,p.2))/\(es.toList.map (·.born)).Nodup/\(∀e∈es.toList,e.born<clock)
 nodup:(ps.map (·.1)).Nodup
variable {w w':World}{m:Nat}{ps:List (κ×Value)}{S:Nat->Prop}
def Aq.lt [DecidableEq κ][MKey κ](h:Aq w m ps):m<w.heap.size:=by obtain⟨⟨_,_,h,_⟩,_⟩:=h;exact CH h
def Aq.keep [DecidableEq κ][MKey κ](h:Aq w m ps)(k:Ae S w w')(hn:¬S m):Aq w' m ps:=by
 have hl:=h.lt;obtain⟨⟨es,c,h1,h2⟩,h3⟩:=h;exact⟨⟨es,c,(k.block m hl hn).trans h1,h2⟩,h3⟩
def Aq.ext [DecidableEq κ][MKey κ](h:Aq w m ps)(k:As w w'):Aq w' m ps:=h.keep k id
def Mf [DecidableEq κ] (a : κ) : ∀ (ps : List (κ × Value)) (i : Nat), (DA a ps i).map (·.2) = BU ps a
  | [], _ => rfl
  | p :: ps, i => by
    unfold DA BU;rw [Abo];by_cases h : a = p.1
    · simp [h]
    simp only [h, if_false, decide_false];exact Mf a ps (i + 1)
def C7 [DecidableEq κ](ps:List (κ×Value))(a:κ)(v:Value):List (κ×Value):=match DA a ps 0 with
 |some (i,_)=>ps.set i (a,v)
 |none=>ps++[(a,v)]
def GV [DecidableEq κ](ps:List (κ×Value))(a:κ):List (κ×Value):=match DA a ps 0 with
 |some (i,_)=>ps.eraseIdx i
 |none=>ps
def Fj [DecidableEq κ] {a : κ} : ∀ {ps : List (κ × Value)} {i k : Nat} {v : Value}, DA a ps i = some (k, v) -> ∃ j, k = i + j /\ ps[j]? = some (a, v)
  | [], _, _, _, h => by simp [DA] at h
  | p :: ps, i, k, v, h => by
    unfold DA at h;split at h
    · rename_i hc;simp only [Option.some.injEq, Prod.mk.injEq] at h;exact ⟨0, by omega, by simp [hc, <- h.2]⟩
    obtain ⟨j, h1, h2⟩ := Fj h;exact ⟨j + 1, by omega, by simpa using h2⟩
def Fl [DecidableEq κ] {a : κ} : ∀ {ps : List (κ × Value)} {i : Nat}, DA a ps i = none -> ∀ p ∈ ps, p.1 ≠ a
  | [], _, _, p, hp => by simp at hp
  | q :: ps, i, h, p, hp => by
    unfold DA at h;split at h
    · cases h
    rename_i hc;rcases List.mem_cons.1 hp with rfl | hp
    · exact λe => hc e.symm
    exact Fl h p hp
def F1 (w:World)(m:Nat)(o:Obj):Ae (one m) w {w with heap:=w.heap.setIfInBounds m o}:=
 ⟨rfl,rfl,rfl,by simp,λk _ hn=>by simp only[Abx];rw[if_neg (λe=>hn e.symm)]⟩
def LX {ps:List (κ×Value)}{j:Nat}{a:κ}{v u:Value}(h:ps[j]? =some (a,u)):(ps.set j (a,v)).map (·.1)=ps.map (·.1):=by
 rw[List.map_set];apply Abu;intro k;rw[Ab9];split
 ·rename_i e;subst e;rw[Aaz,h];simp only[AaL,Aad];rw[if_pos (List.getElem?_eq_some_iff.1 h).1]
 rfl
def Oh {es:Array MapEntry}{j:Nat}{k v:Value}:((es.modify j (λe=>{e with key:=k,val:=v})).toList.map (·.born))=es.toList.map (·.born):=by
 apply Abu;intro i;simp only[Aaz,Abl,Abd];split
 ·cases es[i]? <;>rfl
 rfl
section
variable {P :Program}{t k e:TypeId}{d:TypeDesc}{a:κ}{v:Value}
def PU [DecidableEq κ] [MKey κ] (ht : P.underlying t = some (.map k e)) (hk : P.underlying k = some d) (hd : MKey.desc κ P k d) (h : Aq w m ps) :
    ∃ w', (Instr.mapUpdate t (.map (some m)) (MKey.enc a) v).run P w = .ok () w' /\ Aq w' m (C7 ps a v) /\ Ae (one m) w w' := by
  have hlt := h.lt;obtain ⟨⟨es, c, h1, h2, h3, h4⟩, h5⟩ := h;have hf := MKey.find hk hd a _ _ w h2;have hc := MKey.check hk hd a false 9998 w;cases hm : DA a ps 0 with
  | none =>
    rw [hm] at hf;refine ⟨{ w with heap := w.heap.setIfInBounds m (.map (es.push { key := MKey.enc a, val := v, born := c }) (c + 1)) }, by simp only [Instr.mapUpdate, Sem.run_bind, run_underlying ht, Result.andThen_ok, MapKept.run_getObj_map h1, hc, hf, MapKept.run_setObj_map _ h1], ?_, F1 w m _⟩;have hno := Fl hm;refine ⟨⟨_, _, by simp only [Abx, if_true, hlt]; rfl, ?_, ?_, ?_⟩, ?_⟩
    · simp only [C7, hm, Array.toList_push, Aam, h2, Aaf, Aav]
    · simp only [Array.toList_push, Aam, Aaf, Aav];rw [Aa1];refine ⟨h3, by simp, ?_⟩;intro x hx y hy;simp only [Aah] at hy;obtain ⟨q, hq, rfl⟩ := List.mem_map.1 hx;have := h4 q hq;omega
    · intro x hx;simp only [Array.toList_push, Aak, Aah] at hx;rcases hx with hx | rfl
      · have := h4 x hx; omega
      simp
    simp only [C7, hm, Aam, Aaf, Aav];rw [Aa1];refine ⟨h5, by simp, ?_⟩;intro x hx y hy;simp only [Aah] at hy;obtain ⟨q, hq, rfl⟩ := List.mem_map.1 hx;subst hy;exact hno q hq
  | some r =>
    obtain ⟨i, u⟩ := r;rw [hm] at hf;obtain ⟨j, hj, hp⟩ := Fj hm;simp only [Aaq] at hj;subst hj;have hes : (es.toList.map (λe => (e.key, e.val)))[i]? = some (MKey.enc a, u) := by rw [h2, Aaz, hp]; rfl
    rw [Aaz, Aby] at hes;obtain ⟨e0, he0, he1⟩ := hes;simp only [Prod.mk.injEq] at he1;have he2 : es[i]? = some e0 := by rw [<- Abl]; exact he0
    have hst := MKey.stays P w a;refine ⟨{ w with heap := w.heap.setIfInBounds m (.map (es.modify i (λe => { e with key := MKey.enc a, val := v })) c) }, by simp only [Instr.mapUpdate, Sem.run_bind, run_underlying ht, Result.andThen_ok, MapKept.run_getObj_map h1, hc, hf, he2, AaL, AbE, he1.1, hst, MapKept.run_setObj_map _ h1], ?_, F1 w m _⟩;refine ⟨⟨_, _, by simp only [Abx, if_true, hlt]; rfl, ?_, ?_, ?_⟩, ?_⟩
    · simp only [C7, hm];apply Abu;intro q;simp only [Aaz, Abl, Abd, Ab9];have hlen : i < ps.length := (List.getElem?_eq_some_iff.1 hp).1;by_cases hq : i = q
      · subst hq;simp [he2, hlen]
      have h2q := congrArg (λl => l[q]?) h2;simp only [Aaz, Abl] at h2q;simp only [hq, if_false];exact h2q
    · rw [Oh]; exact h3
    · intro x hx;have hb : x.born ∈ es.toList.map (·.born) := by rw [<- Oh (j := i) (k := MKey.enc a) (v := v)]; exact List.mem_map.2 ⟨x, hx, rfl⟩
      obtain ⟨y, hy, e1⟩ := List.mem_map.1 hb;rw [<- e1];exact h4 y hy
    simp only [C7, hm];rw [LX hp];exact h5
def KE [DecidableEq κ] [MKey κ] (ht : P.underlying t = some (.map k e)) (hk : P.underlying k = some d) (hd : MKey.desc κ P k d) {size bytes : Nat} {z : Value} {agg : Bool} (he : Ty P e size bytes z agg) (h : Aq w m ps) (ok : Bool) :
    (Instr.lookup t (.map (some m)) (MKey.enc a) ok).run P w = .ok (if ok then .tuple #[(BU ps a).getD z, .bool (BU ps a).isSome] else (BU ps a).getD z) w := by
  obtain ⟨⟨es, c, h1, h2, _⟩, _⟩ := h;have hf := MKey.find hk hd a _ _ w h2;have hc := MKey.check hk hd a es.isEmpty 9998 w;have hg := Mf a ps 0;cases hm : DA a ps 0 with
  | none =>
    rw [hm] at hf hg;rw [<- hg];simp only [Instr.lookup, Sem.run_bind, run_underlying ht, Result.andThen_ok, MapKept.run_getObj_map h1, Sem.run_pure, hc, hf, he.run_zero, AbR, Option.getD_none, Aca]
  | some r =>
    obtain ⟨i, u⟩ := r;rw [hm] at hf hg;rw [<- hg];simp only [Instr.lookup, Sem.run_bind, run_underlying ht, Result.andThen_ok, MapKept.run_getObj_map h1, Sem.run_pure, hc, hf, AaL, AbE, Option.isSome_some]
def Wz [DecidableEq κ][MKey κ](ht:P.underlying t=some (.map k e))(h:Aq w m ps){ty:TypeId}:(Builtin.len_ #[t] ty #[.map (some m)]).run P w= .ok (.int .i64 (ps.length:Int)) w:=by
 obtain⟨⟨es,c,h1,h2,_⟩,_⟩:=h;have hl:=congrArg List.length h2;simp only[Aad,AaA]at hl;simp[Builtin.len_,run_underlying ht,MapKept.run_getObj_map h1,goInt,hl,Result.andThen]
def PV [DecidableEq κ] [MKey κ] (ht : P.underlying t = some (.map k e)) (hk : P.underlying k = some d) (hd : MKey.desc κ P k d) (h : Aq w m ps) {ty t2 : TypeId} :
    ∃ w', (Builtin.delete_ #[t, t2] ty #[.map (some m), MKey.enc a]).run P w = .ok (.tuple #[]) w' /\ Aq w' m (GV ps a) /\ Ae (one m) w w' := by
  have hlt := h.lt;obtain ⟨⟨es, c, h1, h2, h3, h4⟩, h5⟩ := h;have hf := MKey.find hk hd a _ _ w h2;have hc := MKey.check hk hd a es.isEmpty 9998 w;cases hm : DA a ps 0 with
  | none =>
    rw [hm] at hf;refine ⟨{ w with heap := w.heap.setIfInBounds m (.map es c) }, by simp [Builtin.delete_, run_underlying ht, MapKept.run_getObj_map h1, hc, hf, MapKept.run_setObj_map _ h1, Result.andThen], ?_, F1 w m _⟩;simp only [GV, hm];exact ⟨⟨es, c, by simp only [Abx, if_true, hlt], h2, h3, h4⟩, h5⟩
  | some r =>
    obtain ⟨i, u⟩ := r;rw [hm] at hf;refine ⟨{ w with heap := w.heap.setIfInBounds m (.map (es.eraseIdxIfInBounds i) c) }, by simp [Builtin.delete_, run_underlying ht, MapKept.run_getObj_map h1, hc, hf, MapKept.run_setObj_map _ h1, Result.andThen], ?_, F1 w m _⟩;have hl : (es.eraseIdxIfInBounds i).toList = es.toList.eraseIdx i := by
      rw [Array.eraseIdxIfInBounds];split
      · rw [Array.toList_eraseIdx]
      rename_i hi;rw [List.eraseIdx_of_length_le (by simpa using hi)]
    simp only [GV, hm];refine ⟨⟨_, c, by simp only [Abx, if_true, hlt]; rfl, ?_, ?_, ?_⟩, ?_⟩
    · rw [hl, DD, h2, DD]
    · rw [hl, DD]; exact h3.sublist (List.eraseIdx_sublist _ _)
    · intro x hx;rw [hl] at hx;exact h4 x (AbW hx)
    rw [DD]; exact h5.sublist (List.eraseIdx_sublist _ _)
def JE {b : Nat} : ∀ {L : List MapEntry} {j : Nat} {x : MapEntry}, (L.map (·.born)).Nodup -> L[j]? = some x -> x.born = b -> L.filter (λy => !(y.born == b)) = L.eraseIdx j
  | [], _, _, _, h, _ => by simp at h
  | y :: L, 0, x, hn, h, hb => by
    simp only [Acb, Option.some.injEq] at h;subst h;simp only [Aaf, AaN] at hn;rw [AbJ, if_neg (by simp [hb]), Acm, AaU];intro z hz;have : z.born ≠ b := λe => hn.1 (by rw [hb, <- e]; exact List.mem_map.2 ⟨z, hz, rfl⟩)
    simp [this]
  | y :: L, j + 1, x, hn, h, hb => by
    simp only [Acn] at h;simp only [Aaf, AaN] at hn;have : y.born ≠ b := λe => hn.1 (by rw [e, <- hb]; exact List.mem_map.2 ⟨x, Aan h, rfl⟩)
    rw [AbJ, if_pos (by simp [this]), Acc, JE hn.2 h hb]
structure Cj [DecidableEq κ][MKey κ](w:World)(r m:Nat)(rest:List (κ×Value))(last:Option (κ×Value)):Prop where
 ex:∃(es:Array MapEntry) (clock since:Nat) (seen:Array Nat) (c0:Nat),w.heap[m]? =some (.map es clock)/\w.heap[r]? =some (.mapIter (some m) since seen c0)/\(∀e∈es.toList,e.born<since)/\since<=c0/\since<=clock/\(es.toList.map (·.born)).Nodup/\(leftOf es seen).toList.map (λe=>(e.key,e.val))=rest.map (λp=>(MKey.enc p.1,p.2))/\
  (∀p,last=some p->clock=c0/\∃b e,seen.back? =some b/\es.find? (·.born==b)=some e/\(e.key,e.val)=(MKey.enc p.1,p.2))
def Cj.lt [DecidableEq κ][MKey κ]{r:Nat}{rest:List (κ×Value)}{last:Option (κ×Value)}(h:Cj w r m rest last):r<w.heap.size/\m<w.heap.size:=by
 obtain⟨_,_,_,_,_,h1,h2,_⟩:=h;exact⟨CH h2,CH h1⟩
def Cj.ne [DecidableEq κ][MKey κ]{r:Nat}{rest:List (κ×Value)}{last:Option (κ×Value)}(h:Cj w r m rest last):r≠m:=by
 obtain⟨_,_,_,_,_,h1,h2,_⟩:=h;rintro rfl;rw[h1]at h2;cases h2
def Cj.keep [DecidableEq κ][MKey κ]{r:Nat}{rest:List (κ×Value)}{last:Option (κ×Value)}(h:Cj w r m rest last)(k:Ae S w w')(hr:¬S r)(hm:¬S m):Cj w' r m rest last:=by
 have hl:=h.lt;obtain⟨es,c,si,se,c0,h1,h2,h3⟩:=h;exact⟨es,c,si,se,c0,(k.block m hl.2 hm).trans h1,(k.block r hl.1 hr).trans h2,h3⟩
def find_born : ∀ {L : List MapEntry} {e : MapEntry}, (L.map (·.born)).Nodup -> e ∈ L -> L.find? (·.born == e.born) = some e
  | [], _, _, h => by simp at h
  | y :: L, e, hn, h => by
    simp only [Aaf, AaN] at hn;rw [Abo];rcases List.mem_cons.1 h with rfl | h
    · simp
    have : y.born ≠ e.born := λq => hn.1 (by rw [q]; exact List.mem_map.2 ⟨e, h, rfl⟩)
    simp only [beq_eq_false_iff_ne.2 this];exact find_born hn.2 h
def PW [DecidableEq κ][MKey κ](ht:P.underlying t=some (.map k e))(h:Aq w m ps):
  ∃w',(Instr.range t (.map (some m))).run P w= .ok (.pointer (some ⟨w.heap.size,0,none⟩)) w'/\Cj w' w.heap.size m ps none/\As w w':=by
 have hlt:=h.lt;obtain⟨⟨es,c,h1,h2,h3,h4⟩,h5⟩:=h;refine⟨_,run_range_map w t k e m es c ht h1,⟨es,c,c,#[],c,?_,heap_alloc_new w _,h4,Aac _,Aac _,h3,?_,λp h=>by cases h⟩,As.push w _⟩
 ·rw[heap_alloc_old w _ hlt];exact h1
 rw[<-h2];unfold leftOf;rw[Array.filter_eq_self.2 Zs]
def Sm [DecidableEq κ] [MKey κ] {r : Nat} {rest : List (κ × Value)} {last : Option (κ × Value)} (h : Cj w r m rest last) (ty : TypeId) :
    (rest = [] /\ (Instr.next (.pointer (some ⟨r, 0, none⟩)) false ty).run P w = .ok (.tuple #[.bool false]) w) \/
    ∃ (j : Nat) (a : κ) (v : Value) (w' : World), rest[j]? = some (a, v) /\ (Instr.next (.pointer (some ⟨r, 0, none⟩)) false ty).run P w = .ok (.tuple #[.bool true, MKey.enc a, v]) w' /\ Cj w' r m (rest.eraseIdx j) (some (a, v)) /\ Ae (one r) w w' := by
  have hlt := h.lt;obtain ⟨es, c, si, se, c0, h1, h2, h3, h4, h5, h6, h7, _⟩ := h;have hmr : m ≠ r := λe => by subst e; rw [h1] at h2; cases h2
  have hmem : ∀ x ∈ (leftOf es se).toList, x.born < si := λx hx => h3 x (by unfold leftOf at hx; simp at hx ⊢; exact hx.1)
  have e1 : (leftOf es se).filter (λx => decide (x.born < si)) = leftOf es se := Array.filter_eq_self.2 (λx hx => by simpa using hmem x (by simpa using hx));have e2 : (leftOf es se).filter (λx => decide (x.born ≥ si)) = #[] := by
    rw [Array.filter_eq_empty_iff];intro x hx;have := hmem x (by simpa using hx);simp;omega
  have hgo : (Instr.next (.pointer (some ⟨r, 0, none⟩)) false ty).run P w = (do
      match ((if (leftOf es se).isEmpty then #[none] else #[]) ++ (leftOf es se).map some)[<- choose (.mapNext ((if (leftOf es se).isEmpty then #[none] else #[]) ++ (leftOf es se).map some).size)]? with
      | some (some e) =>
        setObj r (.mapIter (some m) si (se.push e.born) c)
        pure (.tuple #[.bool true, e.key, e.val])
      | some none => pure (.tuple #[.bool false])
      | none => stuck "Next: no such candidate" : Sem Value).run P w := by
    simp only [Instr.next, getObj, Sem.run_bind, Sem.run, h2, h1, Result.andThen, next_test_false se es si c0 h3 h4, Abk, if_false];have e1' := e1;have e2' := e2;unfold leftOf at e1' e2' ⊢;rw [e1', e2', Array.append_empty];rfl
  have hN : ((leftOf es se).toList.map (·.born)).Nodup := by
    unfold leftOf;rw [Acd];exact h6.sublist (List.filter_sublist.map _)
  by_cases h0 : (leftOf es se).size = 0
  · left;have hemp : leftOf es se = #[] := Array.eq_empty_of_size_eq_zero h0;rw [hemp] at h7 hgo;refine ⟨by simpa using h7, hgo.trans ?_⟩;simp [choose, Sem.run, Question.forced]
  right;have hne : (leftOf es se).isEmpty = false := by simp [Array.isEmpty, h0]
  simp only [hne, Abk, if_false, Array.empty_append, Array.size_map] at hgo;obtain ⟨j, w1, hj, hw1, hrun⟩ : ∃ (j : Nat) (w1 : World), j < (leftOf es se).size /\ (w1 = w \/ w1 = { w with drawn := w.drawn + 1 }) /\ (choose (Question.mapNext (leftOf es se).size)).run P w = .ok j w1 := by
    by_cases hf : (leftOf es se).size <= 1
    · exact ⟨0, w, by omega, .inl rfl, by simp [choose, Sem.run, Question.forced, hf]⟩
    exact ⟨_, w.drew, Abb _ Zo, .inr rfl, by
      simp only [choose, Sem.run, Question.forced, decide_eq_true_eq, hf, if_false, Question.cut];rfl⟩
  have hw1h : w1.heap = w.heap := by rcases hw1 with rfl | rfl <;> rfl
  have hx : (leftOf es se).toList[j]? = some (leftOf es se)[j] := by simp
  have hr7 := congrArg (λl => l[j]?) h7;simp only [Aaz, hx, AaL] at hr7;cases hrj : rest[j]? with
  | none => rw [hrj] at hr7; cases hr7
  | some p =>
    obtain ⟨a, v⟩ := p;rw [hrj] at hr7;simp only [AaL, Option.some.injEq, Prod.mk.injEq] at hr7;have hs : (setObj r (.mapIter (some m) si (se.push (leftOf es se)[j].born) c)).run P w1 = .ok () { w1 with heap := w1.heap.setIfInBounds r (.mapIter (some m) si (se.push (leftOf es se)[j].born) c) } := by
      simp only [setObj, Sem.run, hw1h, h2]
    refine ⟨j, a, v, { w1 with heap := w1.heap.setIfInBounds r (.mapIter (some m) si (se.push (leftOf es se)[j].born) c) }, hrj, ?_, ?_, ?_⟩
    · rw [hgo];simp only [Sem.run_bind, hrun, Result.andThen_ok, Array.getElem?_map, Array.getElem?_eq_getElem hj, AaL, hs, Sem.run_pure, hr7.1, hr7.2]
    · refine ⟨es, c, si, se.push (leftOf es se)[j].born, c, ?_, ?_, h3, h5, h5, h6, ?_, ?_⟩
      · simp only [Abx, hw1h];rw [if_neg (λe => hmr e.symm)]; exact h1
      · simp only [Abx, hw1h, if_true, hlt.1]
      · have e3 : (leftOf es (se.push (leftOf es se)[j].born)).toList = (leftOf es se).toList.filter (λy => !(y.born == (leftOf es se)[j].born)) := by
          unfold leftOf;rw [Acd, Acd, AbX];apply List.filter_congr;intro x _;rw [contains_push, Bool.not_or, Bool.and_comm]
        rw [e3, JE hN hx rfl, DD, h7, DD]
      intro p hp;simp only [Option.some.injEq] at hp;subst hp;refine ⟨rfl, (leftOf es se)[j].born, (leftOf es se)[j], by simp, ?_, by simp only [hr7.1, hr7.2]⟩;have hin : (leftOf es se)[j] ∈ es.toList := by
        have h9 := Aan hx;unfold leftOf at h9;rw [Acd] at h9;exact (List.mem_filter.1 h9).1
      rw [<- Array.find?_toList];exact find_born h6 hin
    have k1 : Ae (one r) w w1 := by rcases hw1 with rfl | rfl; exact Ae.refl _ _; exact Ae.drew _ _
    exact k1.trans (F1 w1 r _) (λ_ _ h => h)
variable {n :FN}{ρ:Bd}{dst:Option Nat}{pos:String}{af:Array Edge}{g:Option (Nat×Bool)}{f:FuncId}{R:Ending->World->Prop}{kk:List Item}{K:Bd->World->Prop}{ty:TypeId}
def Di {v v':Value}{w1:World}{o:Oper}(h:X P n ρ o w v w1)(e:v=v'):X P n ρ o w v' w1:=e▸h
def Cj.oL [DecidableEq κ][MKey κ]{r:Nat}{rest:List (κ×Value)}{last:Option (κ×Value)}(h:Cj w r m rest last):∀q,one r q->q<w.heap.size:=λq e=>by rw[show q=r from e];exact h.lt.1
def Cj.ext [DecidableEq κ][MKey κ]{r:Nat}{rest:List (κ×Value)}{last:Option (κ×Value)}(h:Cj w r m rest last)(k:As w w'):Cj w' r m rest last:=h.keep k id id
def Cj.kO [DecidableEq κ][MKey κ]{r:Nat}{rest:List (κ×Value)}{last:Option (κ×Value)}(h:Cj w r m rest last)(k:Ae S w w')(hr:∀q,one r q->¬S q)(hm:∀q,one m q->¬S q):Cj w' r m rest last:=h.keep k (hr r rfl) (hm m rfl)
def CT [DecidableEq κ][MKey κ]{x ix:Operand}{size bytes:Nat}{z:Value}{agg:Bool}(ht:P.underlying t=some (.map k e))(hk:P.underlying k=some d)(hd:MKey.desc κ P k d)(he:Ty P e size bytes z agg)(hx:rd n ρ x= .map (some m))(hi:rd n ρ ix=MKey.enc a)(h:Aq w m ps):
  X P n ρ ⟨dst,.lookup t x ix false,ty,pos,af,g⟩ w ((BU ps a).getD z) w:=by
 have:=KE (a:=a) ht hk hd he h false
 simp[X,execOp,hx,hi,this]
def BE [DecidableEq κ][MKey κ]{x ix:Operand}{size bytes:Nat}{z:Value}{agg:Bool}(ht:P.underlying t=some (.map k e))(hk:P.underlying k=some d)(hd:MKey.desc κ P k d)(he:Ty P e size bytes z agg)(hx:rd n ρ x= .map (some m))(hi:rd n ρ ix=MKey.enc a)(h:Aq w m ps):
  X P n ρ ⟨dst,.lookup t x ix true,ty,pos,af,g⟩ w (.tuple #[(BU ps a).getD z,.bool (BU ps a).isSome]) w:=by
 have:=KE (a:=a) ht hk hd he h true
 simp[X,execOp,hx,hi,this]
def AB.mapUpdate [DecidableEq κ][MKey κ]{x ix y:Operand}(ht:P.underlying t=some (.map k e))(hk:P.underlying k=some d)(hd:MKey.desc κ P k d)(hx:rd n ρ x= .map (some m))(hi:rd n ρ ix=MKey.enc a)(hy:rd n ρ y=v)(h:Aq w m ps)
  (hK:∀w',Aq w' m (C7 ps a v)->Ae (one m) w w'->K ρ w'):AB P f n R kk ⟨none,.mapUpdate t x ix y,ty,pos,af,none⟩ ρ w K:=by
 obtain⟨w',h1,h2,h3⟩:=PU (a:=a) (v:=v) ht hk hd h;refine AB.skip (w':=w') ?_ (hK w' h2 h3);simp[execOp,hx,hi,hy,h1]
def AB.rangeMap [DecidableEq κ][MKey κ]{x:Operand}(ht:P.underlying t=some (.map k e))(hx:rd n ρ x= .map (some m))(h:Aq w m ps)
  (hK:∀r w',w.heap.size<=r->Cj w' r m ps none->As w w'->K (Bj ρ dst (.pointer (some ⟨r,0,none⟩))) w'):AB P f n R kk ⟨dst,.range t x,ty,pos,af,none⟩ ρ w K:=by
 obtain⟨w',h1,h2,h3⟩:=PW ht h;exact AB.val (w':=w') (by simp[execOp,hx,h1]) (hK _ w' (Aac _) h2 h3)
def AB.nextMap [DecidableEq κ][MKey κ]{x:Operand}{r:Nat}{rest:List (κ×Value)}{last:Option (κ×Value)}(hx:rd n ρ x= .pointer (some ⟨r,0,none⟩))(h:Cj w r m rest last)
  (hE:rest=[]->K (Bj ρ dst (.tuple #[.bool false])) w)
  (hK:∀(j:Nat) (a:κ) (v:Value) (w':World),rest[j]? =some (a,v)->Cj w' r m (rest.eraseIdx j) (some (a,v))->Ae (one r) w w'->K (Bj ρ dst (.tuple #[.bool true,MKey.enc a,v])) w'):
  AB P f n R kk ⟨dst,.next x false,ty,pos,af,none⟩ ρ w K:=by
 rcases Sm (P:=P) h ty with⟨h0,h1⟩|⟨j,a,v,w',h0,h1,h2,h3⟩
 ·exact AB.val (w':=w) (by simp[execOp,hx,h1]) (hE h0)
 exact AB.val (w':=w') (by simp[execOp,hx,h1]) (hK j a v w' h0 h2 h3)
def Nj [DecidableEq κ][MKey κ]{x:Operand}{r:Nat}{rest:List (κ×Value)}(hx:rd n ρ x= .pointer (some ⟨r,0,none⟩))(h:Cj w r m rest (some (a,v))):
  X P n ρ ⟨dst,.entry x,ty,pos,af,g⟩ w (.tuple #[MKey.enc a,v]) w:=by
 obtain⟨es,c,si,se,c0,h1,h2,_,_,_,_,_,h8⟩:=h;obtain⟨hc,b,e,hb,he,hk⟩:=h8 _ rfl;simp only[Prod.mk.injEq]at hk;subst hc;have hrun:(Instr.entry (.pointer (some ⟨r,0,none⟩))).run P w= .ok (.tuple #[MKey.enc a,v]) w:=by
  simp only[Instr.entry,Sem.run_bind,getObj,Sem.run,h2,h1,Result.andThen,hb,he,bne_self_eq_false,Abk,if_false,Sem.run_pure,hk.1,hk.2]
 simp only[X,execOp,hx,Sem.run_bind,hrun,Result.andThen_ok];rfl
def Oi [DecidableEq κ][MKey κ]{x:Operand}(ht:P.underlying t=some (.map k e))(hx:rd n ρ x= .map (some m))(h:Aq w m ps):
  X P n ρ ⟨dst,.call {callee:= .builtin .len,args:=#[x],argTypes:=#[t]},ty,pos,af,g⟩ w (.int .i64 (ps.length:Int)) w:=by
 have:=Wz (ty:=ty) ht h
 simp[X,execOp,resolve,invoke,builtin,hx,this]
def AB.deleteMap [DecidableEq κ][MKey κ]{x ix:Operand}{t2:TypeId}(ht:P.underlying t=some (.map k e))(hk:P.underlying k=some d)(hd:MKey.desc κ P k d)(hx:rd n ρ x= .map (some m))(hi:rd n ρ ix=MKey.enc a)(h:Aq w m ps)
  (hK:∀w',Aq w' m (GV ps a)->Ae (one m) w w'->K (Bj ρ dst (.tuple #[])) w'):AB P f n R kk ⟨dst,.call {callee:= .builtin .delete,args:=#[x,ix],argTypes:=#[t,t2]},ty,pos,af,none⟩ ρ w K:=by
 obtain⟨w',h1,h2,h3⟩:=PV (a:=a) (ty:=ty) (t2:=t2) ht hk hd h;exact AB.val (w':=w') (by simp[execOp,resolve,invoke,builtin,hx,hi,h1]) (hK w' h2 h3)
structure JF [DecidableEq κ][MKey κ](w:World)(r m:Nat)(ps rest:List (κ×Value))(last:Option (κ×Value)):Prop where
 map:Aq w m ps
 it:Cj w r m rest last
def X7 (r m:Nat):Nat->Prop:=λq=>q=r\/q=m
def Aq.oL [DecidableEq κ][MKey κ](h:Aq w m ps):∀q,one m q->q<w.heap.size:=λq e=>by rw[show q=m from e];exact h.lt
def Aq.kO [DecidableEq κ][MKey κ](h:Aq w m ps)(k:Ae S w w')(hn:∀q,one m q->¬S q):Aq w' m ps:=h.keep k (hn m rfl)
def JF.oL [DecidableEq κ][MKey κ]{r:Nat}{rest:List (κ×Value)}{last:Option (κ×Value)}(h:JF w r m ps rest last):∀q,X7 r m q->q<w.heap.size:=by
 rintro q (rfl|rfl)
 ·exact h.it.lt.1
 exact h.it.lt.2
def JF.kO [DecidableEq κ][MKey κ]{r:Nat}{rest:List (κ×Value)}{last:Option (κ×Value)}(h:JF w r m ps rest last)(k:Ae S w w')(hn:∀q,X7 r m q->¬S q):JF w' r m ps rest last:=
 ⟨h.map.keep k (hn m (.inr rfl)),h.it.keep k (hn r (.inl rfl)) (hn m (.inr rfl))⟩
def JF.ext [DecidableEq κ][MKey κ]{r:Nat}{rest:List (κ×Value)}{last:Option (κ×Value)}(h:JF w r m ps rest last)(k:As w w'):JF w' r m ps rest last:=h.kO k λ_ _=>id
def Nk {k2 e2 t2:TypeId}{r:Option Nat}(ht:P.underlying t2=some (.map k2 e2))(q:Nat):(Op.equalIn (q+1) t2 (.map r) (.map none)).run P w= .ok r.isNone w:=by
 rw[Op.equalIn];cases r<;>simp[run_underlying ht]
def Oj {t':TypeId}{x y:Operand}{r:Option Nat}(ht:P.underlying t=some (.map k e))(hx:rd n ρ x= .map r)(hy:rd n ρ y= .map none):
  X P n ρ ⟨dst,.binOp .neq t x y t',ty,pos,af,g⟩ w (.bool r.isSome) w:=by
 simp[X,execOp,hx,hy,eqGuard,binOp,Hf (Nk ht) ht]
def AB.makeMap [DecidableEq κ][MKey κ](hK:∀r w',w.heap.size<=r->Aq w' r ([]:List (κ×Value))->As w w'->K (Bj ρ dst (.map (some r))) w'):AB P f n R kk ⟨dst,.makeMap t none,ty,pos,af,none⟩ ρ w K:=by
 refine AB.val (w':=w.alloc (.map #[] 0)) (by simp[execOp,Instr.makeMap,newObj,Sem.run]) (hK w.heap.size _ (Aac _) ⟨⟨#[],0,heap_alloc_new w _,rfl,by simp,by simp⟩,by simp⟩ (As.push w _))
end
end
section
variable {P :Program}{f:FuncId}{n:FN}{R:Ending->World->Prop}{k:List Item}{ρ:Bd}{w:World}
variable {dst :Option Nat}{ty:TypeId}{pos:String}{af:Array Edge}{α:Type}[Enc α]{K:Bd->World->Prop}{g:Option (Nat×Bool)}
def FH {t e:TypeId}{x:Operand}{a:Option Addr}{l c:Nat}(ht:P.underlying t=some (.slice e))(hx:rd n ρ x= .slice a l c):
  X P n ρ ⟨dst,.call {callee:= .builtin .cap,args:=#[x],argTypes:=#[t]},ty,pos,af,g⟩ w (.int .i64 (c:Int)) w:=by
 simp[X,execOp,resolve,invoke,builtin,Builtin.cap_,run_underlying ht,hx,goInt]
def AB.appendZeros {t tn e:TypeId}{s x:Operand}{bytes:Nat}{z:Value}{agg:Bool}{kn:IntKind}{q:Nat}(α:Type)[Enc α]
  (ht:P.underlying t=some (.slice e)) (htn:P.underlying tn=some (.int kn)) (he:Ty P e (Enc.size α) bytes z agg) (hzs:z.cells.size=Enc.size α)
  (hs:rd n ρ s= .slice none 0 0) (hx:rd n ρ x= .int .i64 (q:Int)) (h0:0<q) (hq:q<=4294967296) (hb:bytes<=16384)
  (h:∀b cap' w',w.heap.size<=b->q<=cap'->Af w' e (some ⟨b,0,none⟩) cap' ([]:List α)->As w w'->K (Bj ρ dst (.slice (some ⟨b,0,none⟩) q cap')) w'):
  AB P f n R k ⟨dst,.call {callee:= .builtin .append,args:=#[s,x],argTypes:=#[t,tn]},ty,pos,af,none⟩ ρ w K:=by
 obtain⟨i,hi,hz,hsz,hby⟩:=he.info;have hpos:=Enc.pos (α:=α);have hqb:q*bytes<=4294967296*16384:=Nat.mul_le_mul hq hb;have hr:=Lib.run_append_grow_zeros (P:=P) w t tn ty e i z .i64 kn ht htn hi hz none 0 0 [] (run_firstCells_none w.drew i.size 0 0 0) q h0 Zo Zo Zo (by rw[hby];omega)
  (by rw[Aaq,nextslicecap_zero h0,hby];omega)
 rw[Aaq]at hr;have hge:=grownCap_ge w q 0 e;have hcm:grownCap w q 0 e<=maxLen:=grownCap_le_maxLen w _ 0 e (by simp only[maxLen];omega);refine AB.val (v:= .slice (some ⟨w.heap.size,0,none⟩) q (grownCap w q 0 e)) (w':=w.drew.alloc (.cells (([]:List Value).toArray++Builtin.zeroCells z.cells q++Builtin.zeroCells z.cells (grownCap w q 0 e-q)) e)) (by simp only[execOp,resolve,invoke,builtin,Sem.run_bind,Sem.run_pure,Result.andThen_ok,Aa9,Aaf,Aav,hs,hx,hr])
  (h w.heap.size _ _ (Aac _) hge ⟨AH _,.inr ⟨w.heap.size,_,_,rfl,Aal _,heap_alloc_new w.drew _,Aal _,hcm,?_,by simp[AS]⟩⟩ ⟨rfl,rfl,rfl,by simp,λk hk _=>heap_alloc_old w.drew _ hk⟩)
 simp only[Ab6,Aa8,Aas,size_zeroCells,hzs,<-Aa7];rw[Aaq,<-Aa7];congr 1;omega
end
end Go.Proofs.YtjkaicjmfgekjaaGreatDoor
