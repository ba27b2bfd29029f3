/-
  Mem
-/
import Derived.Test.YtjkaicjmfgekjaaGreatDoorPkBase
import Derived.Laws.Strings
set_option linter.all false
namespace Go.Proofs.YtjkaicjmfgekjaaGreatDoor
structure Ad (S:Nat->Prop)(w w':World):Prop where
 os:w'.os=w.os
 tape:w'.tape=w.tape
 output:w'.output=w.output
 size:w.heap.size<=w'.heap.size
 block:∀k,k<w.heap.size->¬S k->w'.heap[k]? =w.heap[k]?
abbrev Ap (w w':World):Prop:=Ad (fun _=>False) w w'
abbrev one (b:Nat):Nat->Prop:=fun k=>k=b
theorem Ad.refl (S:Nat->Prop)(w:World):Ad S w w:=⟨rfl,rfl,rfl,Aac _,fun _ _ _=>rfl⟩
theorem Ad.trans {S S':Nat->Prop}{a b c:World}(h:Ad S a b)(k:Ad S' b c)(hs:∀x,x<a.heap.size->S' x->S x):Ad S a c:=
 ⟨k.os.trans h.os,k.tape.trans h.tape,k.output.trans h.output,Aaa h.size k.size,
  fun x hx hn=>(k.block x (Aa4 hx h.size) (fun e=>hn (hs x hx e))).trans (h.block x hx hn)⟩
theorem Ad.mono {S S':Nat->Prop}{a b:World}(h:Ad S a b)(hs:∀x,x<a.heap.size->S x->S' x):Ad S' a b:=
 ⟨h.os,h.tape,h.output,h.size,fun x hx hn=>h.block x hx (fun e=>hn (hs x hx e))⟩
theorem Ad.ext {S:Nat->Prop}{a b c:World}(h:Ad S a b)(k:Ap b c):Ad S a c:=h.trans k fun _ _ e=>e.elim
theorem Ap.to {S:Nat->Prop}{a b:World}(h:Ap a b):Ad S a b:=h.mono fun _ _ e=>e.elim
theorem Ad.new {S S':Nat->Prop}{a b c:World}(h:Ad S a b)(k:Ad S' b c)(hs:∀x,S' x->a.heap.size<=x):Ad S a c:=
 h.trans k fun x hx e=>absurd (hs x e) Zo
theorem Ap.below {a b:World}(h:Ap a b):RowKit.Below a.heap.size a b:=⟨h.os,h.tape,h.output,h.size,fun k hk=>h.block k hk id⟩
theorem Ad.drew (S:Nat->Prop)(w:World):Ad S w {w with drawn:=w.drawn+1}:=⟨rfl,rfl,rfl,Aac _,fun _ _ _=>rfl⟩
theorem Ap.push (w:World)(o:Obj):Ap w {w with heap:=w.heap.push o}:=
 ⟨rfl,rfl,rfl,by simp,fun k hk _=>by simp[Array.getElem?_push,Nat.ne_of_lt hk]⟩
theorem Ad.setRow (w:World)(b:Nat)(cs:Array Value):Ad (one b) w (w.setRow b cs):=
 ⟨rfl,rfl,rfl,by simp,fun k _ hn=>setRow_other w b k cs hn⟩
def AB (w:World)(b:Nat)(c:List Value)(T:TypeId):Prop:=w.heap[b]? =some (.cells c.toArray T (0,0))
def Cl (w:World)(b o:Nat)(cs:List Value):Prop:=∃c T fr,w.heap[b]? =some (.cells c T fr)∧∀j v,cs[j]? =some v->c[o+j]? =some v
section
variable {w w':World}{S:Nat->Prop}{b o:Nat}{c cs:List Value}{T:TypeId}
theorem Cr {x:Obj}(h:w.heap[b]? =some x):b<w.heap.size:=(Array.getElem?_eq_some_iff.1 h).1
theorem AB.lt (h:AB w b c T):b<w.heap.size:=Cr h
theorem Cl.lt (h:Cl w b o cs):b<w.heap.size:=by obtain⟨_,_,_,h,_⟩:=h;exact Cr h
theorem AB.keep (h:AB w b c T)(k:Ad S w w')(hn:¬S b):AB w' b c T:=(k.block b h.lt hn).trans h
theorem Cl.keep (h:Cl w b o cs)(k:Ad S w w')(hn:¬S b):Cl w' b o cs:=by
 have hl:=h.lt
 obtain⟨c,T,fr,h1,h2⟩:=h
 exact⟨c,T,fr,(k.block b hl hn).trans h1,h2⟩
theorem AB.ext (h:AB w b c T)(k:Ap w w'):AB w' b c T:=h.keep k id
theorem Cl.ext (h:Cl w b o cs)(k:Ap w w'):Cl w' b o cs:=h.keep k id
theorem AB.cl (h:AB w b c T):Cl w b 0 c:=⟨c.toArray,T,(0,0),h,fun j v hv=>by simpa using hv⟩
theorem Cl.cell (h:Cl w b o cs){j:Nat}{v:Value}(hv:cs[j]? =some v):w.cell? ⟨b,o+j,none⟩=some v:=by
 obtain⟨c,T,fr,h1,h2⟩:=h
 simp only[World.cell?,h1]
 simpa using h2 j v hv
theorem Cl.head {v:Value}{r:List Value}(h:Cl w b o (v::r)):w.cell? ⟨b,o,none⟩=some v:=h.cell (j:=0) rfl
theorem Cl.sub (h:Cl w b o cs){i:Nat}{ds:List Value}(hs:∀j v,ds[j]? =some v->cs[i+j]? =some v):Cl w b (o+i) ds:=by
 obtain⟨c,T,fr,h1,h2⟩:=h
 exact⟨c,T,fr,h1,fun j v hv=>by have:=h2 (i+j) v (hs j v hv);rwa[<-Abr]at this⟩
theorem Cl.drop (h:Cl w b o cs)(i m:Nat):Cl w b (o+i) ((cs.drop i).take m):=h.sub fun j v hv=>by
 rw[AbO]at hv
 split at hv
 ·rw[Abs]at hv;exact hv
 ·cases hv
theorem Cl.field (h:Cl w b o cs){i:Nat}{v:Value}(hv:cs[i]? =some v):Cl w b (o+i) [v]:=h.sub fun j u hu=>by
 cases j with
 |zero=>simp at hu;subst hu;simpa using hv
 |succ j=>simp at hu
end
class Enc (α:Type) where
 val:α->Value
 size:Nat
 agg:Bool
 shape:∀x,(agg=true->∃cs,val x= .agg cs∧cs.size=size)∧(agg=false->(val x).oneCell'=true∧size=1)
 plain:∀x,∀v∈(val x).cells.toList,v.oneCell'=true
 pos:0<size
def cellsOf {α:Type}[Enc α](x:α):List Value:=(Enc.val x).cells.toList
def AM {α:Type}[Enc α](xs:List α):List Value:=xs.flatMap cellsOf
theorem FX {v:Value}(h:v.oneCell'=true):v.cells=#[v]:=by cases v<;>simp_all[Value.cells,Value.oneCell']
theorem AF {α:Type}[Enc α](x:α):(cellsOf x).length=Enc.size α:=by
 unfold cellsOf
 cases h:Enc.agg α with
 |true=>obtain⟨cs,hv,hs⟩:=(Enc.shape x).1 h;simp[hv,Value.cells,hs]
 |false=>obtain⟨h1,h2⟩:=(Enc.shape x).2 h;rw[FX h1,h2];rfl
theorem AE {α:Type}[Enc α](xs:List α):(AM xs).length=xs.length*Enc.size α:=by
 induction xs with
 |nil=>simp[AM]
 |cons x xs ih=>simp only[AM,AaV,Aab,AF,Aaj]at*;rw[ih,AaW];omega
theorem DU {α:Type}[Enc α](xs ys:List α):AM (xs++ys)=AM xs++AM ys:=by simp[AM]
theorem B3 {α:Type}[Enc α](x:α)(xs:List α):AM (x::xs)=cellsOf x++AM xs:=by simp[AM]
theorem GQ {α : Type} [Enc α] (xs : List α) (i : Nat) (h : i < xs.length) (j : Nat) (v : Value) (hv : (cellsOf xs[i])[j]? = some v) :
    (AM xs)[i * Enc.size α + j]? = some v := by
  induction xs generalizing i with
  | nil => simp at h
  | cons x xs ih =>
    rw [B3]
    have hl := AF x
    cases i with
    | zero =>
      have hj : j < (cellsOf x).length := by
        have := (List.getElem?_eq_some_iff.1 hv).1
        simpa using this
      rw [Nat.zero_mul, Aaq, Acl hj]; simpa using hv
    | succ i =>
      rw [AbY (by rw [hl, AaW]; omega), hl, AaW]
      have e : i * Enc.size α + Enc.size α + j - Enc.size α = i * Enc.size α + j := by omega
      rw [e]
      exact ih i (by simpa using h) (by simpa using hv)
theorem HH {α:Type}[Enc α](xs:List α):∀v∈AM xs,v.oneCell'=true:=by
 intro v hv
 simp only[AM,List.mem_flatMap,cellsOf]at hv
 obtain⟨x,_,hx⟩:=hv
 exact Enc.plain x v hx
def Av {α:Type}[Enc α](w:World)(a:Option Addr)(xs:List α):Prop:=xs=[]∨∃b o,a=some ⟨b,o,none⟩∧Cl w b o (AM xs)
section
variable {α :Type}[Enc α]{w w':World}{S:Nat->Prop}{a:Option Addr}{xs:List α}
theorem Av.nil (w:World)(a:Option Addr):Av w a ([]:List α):= .inl rfl
theorem Av.at (h:Av w a xs){i:Nat}(hi:i<xs.length):∃b o,a=some ⟨b,o,none⟩∧Cl w b (o+i*Enc.size α) (cellsOf xs[i]):=by
 rcases h with rfl|⟨b,o,ha,hc⟩
 ·simp at hi
 ·exact⟨b,o,ha,hc.sub fun j v hv=>GQ xs i hi j v hv⟩
theorem Av.el (h:Av w a xs){i:Nat}(hi:i<xs.length):∃b o x,xs[i]? =some x∧a=some ⟨b,o,none⟩∧Cl w b (o+i*Enc.size α) (cellsOf x):=by
 obtain⟨b,o,ha,hc⟩:=h.at hi
 exact⟨b,o,xs[i],by simp[hi],ha,hc⟩
theorem Av.keep (h:Av w a xs)(k:Ad S w w')(hn:∀x,a=some x->¬S x.block):Av w' a xs:=by
 rcases h with h|⟨b,o,ha,hc⟩
 ·exact .inl h
 ·exact .inr ⟨b,o,ha,hc.keep k (hn _ ha)⟩
theorem Av.ext (h:Av w a xs)(k:Ap w w'):Av w' a xs:=h.keep k fun _ _=>id
theorem Hc {α:Type}[Enc α]:∀(m:Nat) (xs:List α),AM (xs.take m)=(AM xs).take (m*Enc.size α)
 |0,xs=>by simp[AM]
 |m+1,[]=>by simp[AM]
 |m+1,x::xs=>by rw[Abi,B3,Hc m xs,B3,AaW,AbH,<-AF x,Acm]
theorem Av.take (h:Av w a xs)(m:Nat):Av w a (xs.take m):=by
 rcases h with rfl|⟨b,o,ha,hc⟩
 ·exact .inl Zs
 ·refine .inr ⟨b,o,ha,?_⟩
  rw[Hc]
  have:=hc.drop 0 (m*Enc.size α)
  simpa using this
theorem Av.nil_of (h:Av w a xs)(ha:a.isNone=true):xs=[]:=by
 rcases h with h|⟨b,o,h,_⟩
 ·exact h
 ·rw[h]at ha;cases ha
theorem Av.drop (h : Av w a xs) (i m : Nat) {b o : Nat} (ha : a = some ⟨b, o, none⟩) : Av w (some ⟨b, o + i * Enc.size α, none⟩) ((xs.drop i).take m) := by
  rcases h with rfl | ⟨b', o', ha', hc⟩
  · exact .inl Zs
  · rw [ha] at ha'
    simp only [Option.some.injEq, Addr.mk.injEq] at ha'
    obtain ⟨rfl, rfl, _⟩ := ha'
    refine .inr ⟨b, _, rfl, ?_⟩
    have hx := hc.drop (i * Enc.size α) (m * Enc.size α)
    have e : AM ((xs.drop i).take m) = ((AM xs).drop (i * Enc.size α)).take (m * Enc.size α) := by
      clear hx hc ha
      have hd : ∀ (i : Nat) (xs : List α), AM (xs.drop i) = (AM xs).drop (i * Enc.size α) := by
        intro i
        induction i with
        | zero => intro xs; simp
        | succ i ih =>
          intro xs
          cases xs with
          | nil => simp [AM]
          | cons x xs => rw [AbP, ih, B3, AaW, AbH, <- Aa5]; rw [<- AF x, AbI]
      have ht : ∀ (m : Nat) (xs : List α), AM (xs.take m) = (AM xs).take (m * Enc.size α) := by
        intro m
        induction m with
        | zero => intro xs; simp [AM]
        | succ m ih =>
          intro xs
          cases xs with
          | nil => simp [AM]
          | cons x xs => rw [Abi, B3, ih, B3, AaW, AbH, <- AF x, Acm]
      rw [ht, hd]
    rw [e]; exact hx
end
instance : Enc Int where
 val n:= .int .i64 n
 size:=1
 agg:=false
 shape _:=⟨fun h=>(by cases h),fun _=>⟨rfl,rfl⟩⟩
 plain _ v hv:=by simp[Value.cells]at hv;subst hv;rfl
 pos:=by decide
instance : Enc ByteArray where
 val s:= .string s
 size:=1
 agg:=false
 shape _:=⟨fun h=>(by cases h),fun _=>⟨rfl,rfl⟩⟩
 plain _ v hv:=by simp[Value.cells]at hv;subst hv;rfl
 pos:=by decide
structure SH where
 a:Option Addr
 len:Nat
 cap:Nat
instance : Enc SH where
 val s:= .slice s.a s.len s.cap
 size:=1
 agg:=false
 shape _:=⟨fun h=>(by cases h),fun _=>⟨rfl,rfl⟩⟩
 plain _ v hv:=by simp[Value.cells]at hv;subst hv;rfl
 pos:=by decide
structure gU where
 v:Int
instance : Enc gU where
 val s:= .int .u64 s.v
 size:=1
 agg:=false
 shape _:=⟨fun h=>(by cases h),fun _=>⟨rfl,rfl⟩⟩
 plain _ v hv:=by simp[Value.cells]at hv;subst hv;rfl
 pos:=by decide
abbrev Enc.struct {α:Type}(cells:α->List Value)(size:Nat)(hs:∀x,(cells x).length=size)(hp:∀x,∀v∈cells x,v.oneCell'=true)(h0:0<size):Enc α where
 val x:= .agg (cells x).toArray
 size:=size
 agg:=true
 shape x:=⟨fun _=>⟨_,rfl,by simpa using hs x⟩,fun h=>(by cases h)⟩
 plain x v hv:=hp x v (by simpa[Value.cells]using hv)
 pos:=h0
def Af {α:Type}[Enc α](w:World)(T:TypeId)(a:Option Addr)(cap:Nat)(xs:List α):Prop:=
 w.ownsRow 0 T (Enc.size α) (.slice a xs.length cap) xs.length (AM xs)
section
variable {α :Type}[Enc α]{w w':World}{S:Nat->Prop}{T:TypeId}{a:Option Addr}{cap:Nat}{xs:List α}
theorem Af.nil (w:World)(T:TypeId):Af w T none 0 ([]:List α):=World.ownsRow_nil w 0 T _
theorem Af.cases (h:Af w T a cap xs):(a=none∧cap=0∧xs=[])∨
  ∃g cur,a=some ⟨g,0,none⟩∧w.heap[g]? =some (.cells cur T (0,0))∧xs.length<=cap∧cap<=maxLen∧cur.size=cap*Enc.size α∧cur.toList.take (xs.length*Enc.size α)=AM xs:=by
 rcases h.2 with⟨h1,h2⟩|⟨g,c,cur,h1,_,h2,h3,h4,h5,h6⟩
 ·simp only[Value.slice.injEq]at h1
  exact .inl ⟨h1.1,h1.2.2,AaK h2⟩
 ·simp only[Value.slice.injEq,true_and]at h1
  obtain⟨rfl,rfl⟩:=h1
  exact .inr ⟨g,cur,rfl,h2,h3,h4,h5,h6⟩
theorem Af.sl (h:Af w T a cap xs):Av w a xs:=by
 rcases h.cases with⟨_,_,h3⟩|⟨g,cur,h1,h2,_,_,_,h6⟩
 ·exact .inl h3
 ·refine .inr ⟨g,0,h1,cur,T,(0,0),h2,fun j v hv=> ?_⟩
  rw[<-h6,AbO]at hv
  split at hv
  ·simpa using hv
  ·cases hv
theorem Af.le_cap (h:Af w T a cap xs):xs.length<=cap:=by
 rcases h.cases with⟨_,_,rfl⟩|⟨_,_,_,_,h,_⟩
 ·simp
 ·exact h
theorem Af.lt (h:Af w T a cap xs){x:Addr}(hx:a=some x):x.block<w.heap.size:=by
 rcases h.cases with⟨h1,_,_⟩|⟨g,cur,h1,h2,_⟩
 ·rw[h1]at hx;cases hx
 ·rw[h1]at hx;simp only[Option.some.injEq]at hx;subst hx;exact Cr h2
theorem Af.keep (h:Af w T a cap xs)(k:Ad S w w')(hn:∀x,a=some x->¬S x.block):Af w' T a cap xs:=by
 refine⟨h.1,?_⟩
 rcases h.2 with h2|⟨g,c,cur,h1,h0,h2,h3⟩
 ·exact .inl h2
 ·have h1':=h1
  simp only[Value.slice.injEq,true_and]at h1'
  exact .inr ⟨g,c,cur,h1,h0,(k.block g (Cr h2) (hn _ h1'.1)).trans h2,h3⟩
theorem Af.ext (h:Af w T a cap xs)(k:Ap w w'):Af w' T a cap xs:=h.keep k fun _ _=>id
end
end Go.Proofs.YtjkaicjmfgekjaaGreatDoor
