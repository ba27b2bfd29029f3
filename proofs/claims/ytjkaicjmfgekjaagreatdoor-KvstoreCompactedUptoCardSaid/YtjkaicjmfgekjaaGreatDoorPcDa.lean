/-
  Da, Db, Dc, Dd, De, Df, Dg
-/
import Derived.Test.YtjkaicjmfgekjaaGreatDoorPcStr
import Derived.Test.YtjkaicjmfgekjaaGreatDoorPcI
set_option linter.all false
set_option maxRecDepth 100000
set_option maxHeartbeats 4000000
namespace Go.Proofs.YtjkaicjmfgekjaaGreatDoor
open Go.Proofs.Tryz
attribute [local irreducible] RD RS AB RL RA RT CB Ai
structure PF where
 name:ByteArray
 bytes:List UInt8
 synced:Nat
def Wr (c:UInt8):Bool:=decide (c.toNat=46\/c.toNat=45\/c.toNat=95\/(48<=c.toNat/\c.toNat<=57)\/(97<=c.toNat/\c.toNat<=122)\/(65<=c.toNat/\c.toNat<=90))
def CW (s:ByteArray):Bool:=s.data.toList.all Wr&&(decide (s.size≠0)&&decide (s.size<=32))
def A4 (pl:List PF):Nat:=(pl.map (·.bytes.length)).sum
def CN (pl:List PF)(n:ByteArray):Bool:=pl.any (λf=>decide (f.name=n))
def CD (pl:List PF)(n:ByteArray):Option PF:=pl.find? (λf=>decide (f.name=n))
def CX (pl:List PF)(n:ByteArray):Int:=if CW n then(if CN pl n then 0 else 20)else 6
def DW (pl:List PF)(n:ByteArray)(u:PF->PF):List PF:=pl.map λf=>if f.name=n then u f else f
def Df (room:Int)(pl:List PF)(n:ByteArray)(b:List UInt8):Int:=
 if CW n then(if (CN pl n=false/\64<=pl.length)\/room-(A4 pl:Int)<(b.length:Int)then 7 else 0)else 6
def Do (room:Int)(pl:List PF)(n:ByteArray)(b:List UInt8):List PF:=
 if Df room pl n b=0 then(if CN pl n then DW pl n (λf=>{f with bytes:=f.bytes++b})else pl++[⟨n,b,0⟩])else pl
def Cq (pl:List PF)(n:ByteArray):List PF:=DW pl n (λf=>{f with synced:=f.bytes.length})
def Br (pl:List PF)(n:ByteArray):List PF:=pl.filter (λf=>decide (f.name≠n))
def E9 (pl:List PF)(n to:ByteArray):Int:=if CW n then(if CW to then(if CN pl n then 0 else 20)else 6)else 6
def HD (pl:List PF)(n to:ByteArray):List PF:=if E9 pl n to=0 then(match CD pl n with|some f=>Br (Br pl n) to++[{f with name:=to}]|none=>pl)else pl
structure Cz where
 name:ByteArray
 keep:Int
 junk:List UInt8
def Fm (f:PF)(t:Cz):Bool:=decide (0<=t.keep)&&(decide (t.keep<=(f.bytes.length:Int)-f.synced)&&decide ((t.junk.length:Int)<=(f.bytes.length:Int)-f.synced-t.keep))
def CU (pl : List PF) : List Cz -> List ByteArray -> Int
  | [], _ => 0
  | t :: l, seen => if CW t.name then (match CD pl t.name with
    | none => 20
    | some f => if seen.any (λs => decide (s = t.name)) = true \/ Fm f t = false then 21 else CU pl l (t.name :: seen)) else 6
def Eu (f:PF)(t:Cz):List UInt8:=f.bytes.take (f.synced+t.keep.toNat)++t.junk
def Dv (ts:List Cz)(f:PF):PF:=match ts.find? (λt=>decide (t.name=f.name))with
 |some t=>⟨f.name,Eu f t,(Eu f t).length⟩
 |none=>⟨f.name,f.bytes.take f.synced,(f.bytes.take f.synced).length⟩
def DS (pl:List PF)(ts:List Cz):List PF:=if CU pl ts []=0 then pl.map (Dv ts)else pl
structure Ce (room:Int)(pl:List PF):Prop where
 nodup:(pl.map (·.name)).Nodup
 may:∀f∈pl,CW f.name=true
 sync:∀f∈pl,f.synced<=f.bytes.length
 used:(A4 pl:Int)<=room
 len:pl.length<=64
 room:0<=room/\room<=16777216
def Ce.perm {room:Int}{pl pl':List PF}(h:Ce room pl)(p:pl.Perm pl'):Ce room pl':=
 ⟨(p.map _).nodup_iff.1 h.nodup,λf hf=>h.may f (p.mem_iff.2 hf),λf hf=>h.sync f (p.mem_iff.2 hf),by rw[A4,<-(p.map _).sum_nat];exact h.used,by rw[<-p.length_eq];exact h.len,h.room⟩
def Bu {pl:List PF}{n:ByteArray}:CN pl n=true↔∃f∈pl,f.name=n:=by simp[CN]
def P0 {pl:List PF}{n:ByteArray}(h:∀f∈pl,f.name≠n):CN pl n=false:=by
 rw[AbY];intro e;obtain⟨f,hf,e⟩:=Bu.1 e;exact h f hf e
def F2 {pl pl':List PF}{n:ByteArray}(p:pl.Perm pl'):CN pl n=CN pl' n:=by
 rw[AaD,Bu,Bu];exact⟨λ⟨f,h,e⟩=>⟨f,p.mem_iff.1 h,e⟩,λ⟨f,h,e⟩=>⟨f,p.mem_iff.2 h,e⟩⟩
def P1 {pl pl':List PF}(p:pl.Perm pl'):A4 pl=A4 pl':=(p.map _).sum_nat
def Mj {pl : List PF} {f : PF} (h : f ∈ pl) : f.bytes.length <= A4 pl := by
  induction pl with
  | nil => cases h
  | cons x l ih =>
    rw [A4, Aaf, Abe];rcases List.mem_cons.1 h with rfl | h
    · omega
    have := ih h; rw [A4] at this; omega
def F3 {pl : List PF} (hn : (pl.map (·.name)).Nodup) {f : PF} (h : f ∈ pl) : CD pl f.name = some f := by
  induction pl with
  | nil => cases h
  | cons x l ih =>
    simp only [Aaf, AaN] at hn;rw [CD, Abo];rcases List.mem_cons.1 h with rfl | h
    · simp
    have : x.name ≠ f.name := λe => hn.1 (e ▸ List.mem_map.2 ⟨f, h, rfl⟩)
    simp only [this, decide_false];exact ih hn.2 h
def KH {pl:List PF}{n:ByteArray}{f:PF}(h:CD pl n=some f):f∈pl/\f.name=n:=by
 have:=List.find?_some h
 exact⟨Aco h,by simpa using this⟩
def KI {pl:List PF}{n:ByteArray}(h:∀f∈pl,f.name≠n):CD pl n=none:=by
 rw[CD,Abf];intro f hf;simpa using h f hf
def Gw {pl pl' : List PF} (hn : (pl.map (·.name)).Nodup) (p : pl.Perm pl') (n : ByteArray) : CD pl n = CD pl' n := by
  cases h : CD pl n with
  | none =>
    rw [KI];intro f hf;have := List.find?_eq_none.1 h f (p.mem_iff.2 hf);simpa using this
  | some f =>
    obtain ⟨h1, rfl⟩ := KH h;rw [F3 ((p.map _).nodup_iff.1 hn) (p.mem_iff.1 h1)]
def Mk {room:Int}{pl pl':List PF}(p:pl.Perm pl')(n:ByteArray)(b:List UInt8):Df room pl n b=Df room pl' n b:=by
 rw[Df,Df,F2 p,P1 p,p.length_eq]
def Ml {pl pl':List PF}(p:pl.Perm pl')(n:ByteArray)(u:PF->PF):(DW pl n u).Perm (DW pl' n u):=p.map _
def Sp {room:Int}{pl pl':List PF}(p:pl.Perm pl')(n:ByteArray)(b:List UInt8):(Do room pl n b).Perm (Do room pl' n b):=by
 rw[Do,Do,Mk p,F2 p];split
 ·split
  ·exact Ml p n _
  exact p.append_right _
 exact p
def I4 {pl pl':List PF}(p:pl.Perm pl')(n:ByteArray):(Br pl n).Perm (Br pl' n):=p.filter _
def Sq {pl pl':List PF}(hn:(pl.map (·.name)).Nodup)(p:pl.Perm pl')(n to:ByteArray):(HD pl n to).Perm (HD pl' n to):=by
 have e:E9 pl n to=E9 pl' n to:=by rw[E9,E9,F2 p]
 rw[HD,HD,e,Gw hn p];split
 ·split
  ·exact(I4 (I4 p n) to).append_right _
  exact p
 exact p
def HU {pl pl' : List PF} (hn : (pl.map (·.name)).Nodup) (p : pl.Perm pl') : ∀ (ts : List Cz) (s : List ByteArray), CU pl ts s = CU pl' ts s
  | [], _ => rfl
  | t :: l, s => by
    rw [CU, CU, Gw hn p];split
    · split
      · rfl
      split
      · rfl
      exact HU hn p l _
    rfl
def Ok {pl pl':List PF}(hn:(pl.map (·.name)).Nodup)(p:pl.Perm pl')(ts:List Cz):(DS pl ts).Perm (DS pl' ts):=by
 rw[DS,DS,HU hn p];split
 ·exact p.map _
 exact p
def KJ {l1 l2:List PF}{f:PF}{u:PF->PF}(hn:((l1++f::l2).map (·.name)).Nodup):DW (l1++f::l2) f.name u=l1++u f::l2:=by
 simp only[Aam,Aaf]at hn;have hd:=List.nodup_append.1 hn;have h1:∀x∈l1,x.name≠f.name:=λx hx=>hd.2.2 _ (List.mem_map.2 ⟨x,hx,rfl⟩) _ Zs
 have h2:∀x∈l2,x.name≠f.name:=λx hx e=>(List.nodup_cons.1 hd.2.1).1 (e▸List.mem_map.2 ⟨x,hx,rfl⟩)
 rw[DW,Aam,Aaf,if_pos rfl];congr 1
 ·exact(AaE λx hx=>if_neg (h1 x hx)).trans (List.map_id'' (λ_=>rfl) _)
 congr 1;exact(AaE λx hx=>if_neg (h2 x hx)).trans (List.map_id'' (λ_=>rfl) _)
def P2 {l1 l2:List PF}{f:PF}(hn:((l1++f::l2).map (·.name)).Nodup):Br (l1++f::l2) f.name=l1++l2:=by
 simp only[Aam,Aaf]at hn;have hd:=List.nodup_append.1 hn;have h1:∀x∈l1,x.name≠f.name:=λx hx=>hd.2.2 _ (List.mem_map.2 ⟨x,hx,rfl⟩) _ Zs
 have h2:∀x∈l2,x.name≠f.name:=λx hx e=>(List.nodup_cons.1 hd.2.1).1 (e▸List.mem_map.2 ⟨x,hx,rfl⟩)
 rw[Br,Abz,AbJ,if_neg Zs,List.filter_eq_self.2 (λx hx=>by simpa using h1 x hx),List.filter_eq_self.2 (λx hx=>by simpa using h2 x hx)]
def I5 {pl:List PF}{n:ByteArray}(h:∀f∈pl,f.name≠n):Br pl n=pl:=List.filter_eq_self.2 λx hx=>by simpa using h x hx
structure Am where
 name:ByteArray
 blk:Nat
 a:Option Addr
 cap:Nat
 bytes:List UInt8
 synced:Nat
def Am.p (f:Am):PF:=⟨f.name,f.bytes,f.synced⟩
def ent (f:Am):ByteArray×Value:=(f.name,jp f.blk)
def BG (fs:List Am):List (ByteArray×Value):=fs.map ent
structure Fo (w:World)(f:Am):Prop where
 blk:AC w f.blk [.slice f.a f.bytes.length f.cap,.int .i64 ((f.synced:Nat):Int)] 125
 own:Af w 5 f.a f.cap f.bytes
 apart:¬Go.Proofs.YtjkaicjmfgekjaaGreatDoor.own f.a f.blk
def DX (f:Am):Nat->Prop:=λq=>q=f.blk\/own f.a q
def AF (fs:List Am):Nat->Prop:=λq=>∃f∈fs,DX f q
structure A3 (w:World)(fs:List Am):Prop where
 all:∀f∈fs,Fo w f
 apart:fs.Pairwise (λf g=>∀q,DX f q->¬DX g q)
def Be (d m:Nat)(fs:List Am):Nat->Prop:=λq=>q=d\/(q=m\/AF fs q)
structure Bv (w:World)(d m:Nat)(room:Int)(fs:List Am):Prop where
 blk:AC w d [.map (some m),.int .i64 room] 120
 map:Aq w m (BG fs)
 files:A3 w fs
 md:¬one m d
 fd:¬AF fs d
 fm:∀q,AF fs q->¬one m q
 ok:Ce room (fs.map Am.p)
def AJ (w:World)(d:Nat)(S:Nat->Prop)(room:Int)(pl:List PF):Prop:=∃m fs,S=Be d m fs/\(fs.map Am.p).Perm pl/\Bv w d m room fs
section
variable {w w':World}{S:Nat->Prop}{f:Am}{fs l1 l2:List Am}{d m:Nat}{room:Int}
def Fo.lt (h:Fo w f):∀q,DX f q->q<w.heap.size:=by
 rintro q (rfl|hq)
 ·exact h.blk.lt
 exact h.own.oL q hq
def Fo.kO (h:Fo w f)(k:Ae S w w')(hn:∀q,DX f q->¬S q):Fo w' f:=
 ⟨h.blk.keep k (hn _ (.inl rfl)),h.own.kO k (λq hq=>hn q (.inr hq)),h.apart⟩
def A3.oL (h:A3 w fs):∀q,AF fs q->q<w.heap.size:=λq ⟨f,hf,hq⟩=>(h.all f hf).lt q hq
def A3.kO (h:A3 w fs)(k:Ae S w w')(hn:∀q,AF fs q->¬S q):A3 w' fs:=
 ⟨λf hf=>(h.all f hf).kO k (λq hq=>hn q ⟨f,hf,hq⟩),h.apart⟩
def A3.ext (h:A3 w fs)(k:As w w'):A3 w' fs:=h.kO k λ_ _=>id
def A3.nil (w:World):A3 w []:=⟨λ_ h=>absurd h Zs,List.Pairwise.nil⟩
def P3 (f g:Am):(∀q,DX f q->¬DX g q)↔(∀q,DX g q->¬DX f q):=⟨λh q a b=>h q b a,λh q a b=>h q b a⟩
def A3.perm (h:A3 w fs){gs:List Am}(p:fs.Perm gs):A3 w gs:=
 ⟨λf hf=>h.all f (p.mem_iff.2 hf),(p.pairwise_iff (λ{a b} hab=>(P3 a b).1 hab)).1 h.apart⟩
def A3.open (h:A3 w (l1++f::l2)):Fo w f/\A3 w (l1++l2)/\∀q,AF (l1++l2) q->¬DX f q:=by
 have h':=h.perm List.perm_middle;obtain⟨h1,h2⟩:=List.pairwise_cons.1 h'.apart;exact⟨h'.all f Zs,⟨λg hg=>h'.all g (Aau _ hg),h2⟩,λq ⟨g,hg,hq⟩ hf=>h1 g hg q hf hq⟩
def A3.close (h:Fo w f)(h1:A3 w (l1++l2))(h2:∀q,AF (l1++l2) q->¬DX f q):A3 w (l1++f::l2):=by
 refine A3.perm (fs:=f::(l1++l2)) ⟨?_,List.pairwise_cons.2 ⟨λg hg q hf hq=>h2 q ⟨g,hg,hq⟩ hf,h1.apart⟩⟩ List.perm_middle.symm;intro g hg;rcases List.mem_cons.1 hg with rfl|hg
 ·exact h
 exact h1.all g hg
def EI {q:Nat}:AF (l1++f::l2) q↔DX f q\/AF (l1++l2) q:=by
 simp only[AF,Aak,Aai];constructor
 ·rintro⟨g,h|rfl|h,hq⟩
  ·exact .inr ⟨g,.inl h,hq⟩
  ·exact .inl hq
  exact .inr ⟨g,.inr h,hq⟩
 rintro(hq|⟨g,h|h,hq⟩)
 ·exact⟨f,.inr (.inl rfl),hq⟩
 ·exact⟨g,.inl h,hq⟩
 exact⟨g,.inr (.inr h),hq⟩
def files_case :∀q,AF (l1++f::l2) q->q=f.blk\/(own f.a q\/AF (l1++l2) q):=λq h=>by
 rcases EI.1 h with(h|h)|h
 ·exact .inl h
 ·exact .inr (.inl h)
 exact .inr (.inr h)
def Bv.oL (h:Bv w d m room fs):∀q,Be d m fs q->q<w.heap.size:=by
 rintro q (rfl|rfl|hq)
 ·exact h.blk.lt
 ·exact h.map.lt
 exact h.files.oL q hq
def Bv.kO (h:Bv w d m room fs)(k:Ae S w w')(hn:∀q,Be d m fs q->¬S q):Bv w' d m room fs:=
 ⟨h.blk.keep k (hn _ (.inl rfl)),h.map.keep k (hn _ (.inr (.inl rfl))),h.files.kO k (λq hq=>hn q (.inr (.inr hq))),h.md,h.fd,h.fm,h.ok⟩
def Bv.ext (h:Bv w d m room fs)(k:As w w'):Bv w' d m room fs:=h.kO k λ_ _=>id
variable {F :Nat->Prop}{pl:List PF}
def AJ.oL (h:AJ w d F room pl):∀q,F q->q<w.heap.size:=by obtain⟨m,fs,rfl,_,h⟩:=h;exact h.oL
def AJ.kO (h:AJ w d F room pl)(k:Ae S w w')(hn:∀q,F q->¬S q):AJ w' d F room pl:=by obtain⟨m,fs,rfl,hp,h⟩:=h;exact⟨m,fs,rfl,hp,h.kO k hn⟩
def AJ.ext (h:AJ w d F room pl)(k:As w w'):AJ w' d F room pl:=h.kO k λ_ _=>id
def AJ.ok (h:AJ w d F room pl):Ce room pl:=by obtain⟨m,fs,rfl,hp,h⟩:=h;exact h.ok.perm hp
def AJ.perm (h:AJ w d F room pl){pl':List PF}(p:pl.Perm pl'):AJ w d F room pl':=by obtain⟨m,fs,e,hp,h⟩:=h;exact⟨m,fs,e,hp.trans p,h⟩
def Mm {ps:List (ByteArray×Value)}{n:ByteArray}(h:∀p∈ps,p.1≠n):BU ps n=none:=by
 rw[BU,List.find?_eq_none.2 (λp hp=>by simpa using λe=>h p hp e.symm)];rfl
def Sr {n:ByteArray}(h:∀f∈fs,f.name≠n):BU (BG fs) n=none:=Mm λp hp=>by
 obtain⟨f,hf,rfl⟩:=List.mem_map.1 hp;exact h f hf
def Ol {ps qs:List (ByteArray×Value)}{n:ByteArray}{v:Value}(h:((ps++(n,v)::qs).map (·.1)).Nodup):BU (ps++(n,v)::qs) n=some v:=by
 have h1:∀p∈ps,p.1≠n:=λp hp=>by
  simp only[Aam,Aaf]at h;exact(List.nodup_append.1 h).2.2 _ (List.mem_map.2 ⟨p,hp,rfl⟩) _ Zs
 rw[BU,List.find?_append,List.find?_eq_none.2 (λp hp=>by simpa using λe=>h1 p hp e.symm)];simp
def I6 {n : ByteArray} {v : Value} {qs : List (ByteArray × Value)} : ∀ {ps : List (ByteArray × Value)} {i : Nat}, (∀ p ∈ ps, p.1 ≠ n) -> DA n (ps ++ (n, v) :: qs) i = some (i + ps.length, v)
  | [], i, _ => by simp [DA]
  | p :: ps, i, h => by
    rw [AaW, DA, if_neg (λe => h p Zs e.symm), I6 (λq hq => h q (by simp [hq]))];simp; omega
def KK {n:ByteArray}:∀{ps:List (ByteArray×Value)} {i:Nat},(∀p∈ps,p.1≠n)->DA n ps i=none
 |[],_,_=>rfl
 |p::ps,i,h=>by rw[DA,if_neg (λe=>h p Zs e.symm)];exact KK λq hq=>h q (by simp[hq])
def Hg (fs:List Am):(BG fs).map (·.1)=fs.map (·.name):=by simp[BG,ent]
def Ij (fs:List Am):(fs.map Am.p).map (·.name)=fs.map (·.name):=by simp[Am.p]
def Um (h:((l1++f::l2).map (·.name)).Nodup):∀g∈l1++l2,g.name≠f.name:=by
 have:=(List.perm_middle (a:=f) (l₁:=l1) (l₂:=l2)).map (·.name)
 have h2:=this.nodup_iff.1 h;intro g hg e;rw[Aaf,AaN]at h2;exact h2.1 (e▸List.mem_map.2 ⟨g,hg,rfl⟩)
def Un (h:((l1++f::l2).map (·.name)).Nodup):BU (BG (l1++f::l2)) f.name=some (jp f.blk):=by
 have e:BG (l1++f::l2)=BG l1++(f.name,jp f.blk)::BG l2:=by simp[BG,ent]
 rw[e];exact Ol (by rw[<-e,Hg];exact h)
def Mn {n:ByteArray}(hn:(fs.map (·.name)).Nodup)(e:fs=l1++f::l2)(hf:f.name=n):(BU (BG fs) n).getD (.pointer none)=jp f.blk:=by
 subst e;subst hf;rw[Un hn];rfl
def P4 {n:ByteArray}(h:∀f∈fs,f.name≠n):(BU (BG fs) n).getD (.pointer none)= .pointer none:=by rw[Sr h];rfl
def A3.openE (h:A3 w fs)(e:fs=l1++f::l2):Fo w f/\A3 w (l1++l2)/\∀q,AF (l1++l2) q->¬DX f q:=by subst e;exact h.open
def BC (e:fs=l1++f::l2):AF fs f.blk:=by subst e;exact EI.2 (.inl (.inl rfl))
def D7 (e:fs=l1++f::l2):∀q,own f.a q->AF fs q:=by subst e;exact λq h=>EI.2 (.inl (.inr h))
def Bt (e:fs=l1++f::l2):∀q,AF (l1++l2) q->AF fs q:=by subst e;exact λq h=>EI.2 (.inr h)
def CZ (e:fs=l1++f::l2):f∈fs:=by subst e;simp
def Bv.names (h:Ce room (fs.map Am.p)):(fs.map (·.name)).Nodup:=by have:=h.nodup;rwa[Ij]at this
def Ce.lens (h:Ce room (fs.map Am.p)):∀f∈fs,f.synced<=f.bytes.length/\f.bytes.length<=16777216:=λf hf=>by
 have h1:=h.sync f.p (List.mem_map.2 ⟨f,hf,rfl⟩);have h2:=Mj (f:=f.p) (List.mem_map.2 ⟨f,hf,rfl⟩);have h3:=h.used;have h4:=h.room;have h5:f.p.bytes=f.bytes:=rfl;rw[h5]at h2;exact⟨h1,by omega⟩
def Om {rs:List Am}{j:Nat}{a:ByteArray}{v:Value}(h:(BG rs)[j]? =some (a,v)):∃f,rs[j]? =some f/\a=f.name/\v=jp f.blk:=by
 rw[BG,Aaz,Aby]at h;obtain⟨f,hf,e⟩:=h;simp only[ent,Prod.mk.injEq]at e;exact⟨f,hf,e.1.symm,e.2.symm⟩
def KL (rs:List Am)(j:Nat):(BG rs).eraseIdx j=BG (rs.eraseIdx j):=(DD _ _ _).symm
def Ik {n:ByteArray}(h:∀f∈fs,f.name≠n)(b:Nat)(a:Option Addr)(c:Nat)(bs:List UInt8)(s:Nat):C7 (BG fs) n (jp b)=BG (fs++[⟨n,b,a,c,bs,s⟩]):=by
 rw[C7,KK (λp hp=>by obtain⟨f,hf,rfl⟩:=List.mem_map.1 hp;exact h f hf)];simp[BG,ent]
def Uo (h:((l1++f::l2).map (·.name)).Nodup):GV (BG (l1++f::l2)) f.name=BG (l1++l2):=by
 have e:BG (l1++f::l2)=BG l1++(f.name,jp f.blk)::BG l2:=by simp[BG,ent]
 have hne:∀p∈BG l1,p.1≠f.name:=λp hp=>by obtain⟨g,hg,rfl⟩:=List.mem_map.1 hp;exact Um h g (by simp[hg])
 rw[e,GV,I6 hne];simp only[Aaq];rw[List.eraseIdx_append_of_length_le (Aac _)];simp[BG]
def Nn (h:((l1++f::l2).map (·.name)).Nodup)(b:Nat)(f':Am)(hf:f'.name=f.name)(hb:f'.blk=b):C7 (BG (l1++f::l2)) f.name (jp b)=BG (l1++f'::l2):=by
 have e:BG (l1++f::l2)=BG l1++(f.name,jp f.blk)::BG l2:=by simp[BG,ent]
 have hne:∀p∈BG l1,p.1≠f.name:=λp hp=>by obtain⟨g,hg,rfl⟩:=List.mem_map.1 hp;exact Um h g (by simp[hg])
 rw[e,C7,I6 hne];simp only[Aaq];rw[List.set_append_right _ _ (Aac _)];simp[BG,ent,hf,hb]
end
end Go.Proofs.YtjkaicjmfgekjaaGreatDoor
namespace Go.Proofs.YtjkaicjmfgekjaaGreatDoor
open Go.Proofs.Tryz
attribute [local irreducible] RD RS AB RL RA RT CB Ai
def Rj {c:UInt8}(h:c.toNat=46\/c.toNat=45\/c.toNat=95\/(48<=c.toNat/\c.toNat<=57)\/(97<=c.toNat/\c.toNat<=122)\/(65<=c.toNat/\c.toNat<=90)):Wr c=true:=decide_eq_true h
def WB {s:ByteArray}{i:Nat}{c:UInt8}(h:s.data.toList[i]? =some c)(hc:Wr c=false):CW s=false:=by
 rw[CW,List.all_eq_false.2 ⟨c,Aan h,by simp[hc]⟩,Bool.false_and]
def Up {s:ByteArray}(h:GS (λc=> !Wr c) s.data.toList s.data.toList.length):CW s=(!decide (s=⟨#[]⟩)&&decide (((s.size:Nat):Int)<=32)):=by
 rw[CW,List.all_eq_true.2 (λc hc=>by
  obtain⟨i,hi,rfl⟩:=AaI hc;have:=h i _ hi (List.getElem?_eq_getElem hi)
  simpa using this),Bool.true_and,YC]
 rw[AaD];simp only[Aao,decide_eq_true_eq,AaH,decide_eq_false_iff_not];omega
def I7 (f:Am)(l:List Am):A4 ((f::l).map Am.p)=f.bytes.length+A4 (l.map Am.p):=by simp[A4,Am.p]
def P5 {rs : List Am} {j : Nat} {f : Am} (h : rs[j]? = some f) : A4 (rs.map Am.p) = f.bytes.length + A4 ((rs.eraseIdx j).map Am.p) := by
  induction rs generalizing j with
  | nil => simp at h
  | cons x l ih =>
    cases j with
    | zero => simp only [Acb, Option.some.injEq] at h; subst h; rw [Acm, I7]
    | succ j => simp only [Acn] at h; rw [Acc, I7, I7, ih h]; omega
def KN {rs:List Am}{j:Nat}{f:Am}(h:rs[j]? =some f):(rs.eraseIdx j).length<rs.length:=by
 have:=(List.getElem?_eq_some_iff.1 h).1
 rw[List.length_eraseIdx,if_pos this];omega
attribute [local irreducible] X
def YJ (s:ByteArray)(w:World)(hs:s.size<=4294967295):
  Calls prog 173 #[.string s] w (AU (λv w'=>v= .bool (CW s)/\As w w')):=by
 have hsl:s.data.toList.length=s.size:=Gv s;refine kD (n:=54) func173 ?_;refine jR<|AB.bytes underlying9 underlying98 underlying5 rfl ?_;intro a1 a3 a5 a6 a0 a4;have K0:=(a4:As w _);refine jG ?_;refine Ai.loop (ι:=Nat) (λi ρ' w'=>Holds ρ' [(0,.string s),(6,.slice (some ⟨a1,0,none⟩) s.data.toList.length a3),(7,.int .i64 ((s.data.toList.length:Nat):Int)),(8,.int .i64 ((i:Nat):Int))]/\As w w'/\(Ax w' (some ⟨a1,0,none⟩) s.data.toList)/\(i<=s.data.toList.length)/\(GS (λc=> !Wr c) s.data.toList i)) (λi=>s.data.toList.length-i) 0 ?_ ?_
 ·refine⟨⟨rfl,rfl,rfl,rfl,trivial⟩,K0,a0,?_,?_⟩
  ·omega
  exact GS.zero _ _
 clear K0;rintro i a7 a8 ⟨a2,K0,a0,hi,hno⟩ ih1;obtain⟨ρ₀,rfl⟩:=a2.ex;clear a2;refine kK ?_ ?_
 ·intro hc9;obtain⟨a9,aa,c,hx,ab,ac⟩:=a0.eo i;refine jG ?_;refine kE (Bo rfl rfl rfl) ?_;refine kE (Bo rfl rfl rfl) ?_;refine jW ?_ (hx:=by exact λhg=>(Kw hg rfl rfl rfl));refine kE (Bo rfl rfl rfl) ?_;refine jW ?_ (hx:=by exact λhg=>(Kw hg rfl rfl rfl));refine kE (Bo rfl rfl rfl) ?_;refine jW ?_ (hx:=by exact λhg=>(Kw hg rfl rfl rfl));refine kE (Bo rfl rfl rfl) ?_;refine jF ?_ ?_
  ·intro hc45;have hok1:Wr c=false:=by
    first
    |(refine Rj ?_;omega)
    |(cases hq:Wr c with
     |false=>rfl
     |true=>exfalso;have hq2:=of_decide_eq_true hq;omega)
   refine kL func173 ?_;exact⟨_,rfl,by rw[WB hx hok1],K0⟩
  intro hc45;have hok1:Wr c=true:=by
   first
   |(refine Rj ?_;omega)
   |(cases hq:Wr c with
    |false=>rfl
    |true=>exfalso;have hq2:=of_decide_eq_true hq;omega)
  refine jG ?_;refine kC i ?_;refine ih1 (i+1) _ _ ?_ Zo;refine⟨⟨rfl,rfl,rfl,rfl,trivial⟩,K0,a0,?_,?_⟩
  ·omega
  exact hno.step hx (by rw[hok1];rfl)
 intro hc9;refine jG ?_;refine kE (Q8 rfl rfl) ?_;refine jW ?_ (hx:=by exact λhg=>(DT underlying9 (B4 hg)));refine jG ?_;refine kE (Bo rfl rfl rfl) ?_;refine jJ func173 ?_;have hil:i=s.data.toList.length:=by omega
 subst hil;exact⟨_,rfl,by rw[Up hno],K0⟩
def Rk (d m:Nat)(room:Int)(fs:List Am)(w:World)(hD:Bv w d m room fs):
  Calls prog 54 #[jp d] w (AU (λv w'=>v= .bool true/\w=w')):=by
 obtain⟨hB,hM,hF,hmd,hfd,hfm,hok⟩:=hD;have hnd:=Bv.names hok;have hlens:=Ce.lens hok;have hroom:=hok.room;have hused:=hok.used;have hcnt:=hok.len;rw[Aad]at hcnt;refine kD (n:=12) func54 ?_;refine kE (DR (EW underlying23 rfl rfl) rfl) ?_;refine jT<|jO (DR (Oj underlying118 rfl rfl) rfl) ?_;refine kE (BP rfl rfl rfl) ?_;refine jJ func54 ?_;exact⟨_,rfl,rfl,rfl⟩
def KO (d m:Nat)(room:Int)(fs:List Am)(name:ByteArray)(w:World)(hD:Bv w d m room fs)(hs:name.size<=4294967295):
  Calls prog 109 #[jp d,.string name] w (AU (λv w'=>As w w'/\((CW name=false/\v= .tuple #[.pointer none,.int .i64 6])\/(CW name=true/\(∀f∈fs,f.name≠name)/\v= .tuple #[.pointer none,.int .i64 20])\/(CW name=true/\∃l1 f l2,fs=l1++f::l2/\f.name=name/\v= .tuple #[jp f.blk,.int .i64 0])))):=by
 obtain⟨hB,hM,hF,hmd,hfd,hfm,hok⟩:=hD;have hnd:=Bv.names hok;have hlens:=Ce.lens hok;have hroom:=hok.room;have hused:=hok.used;have hcnt:=hok.len;rw[Aad]at hcnt;refine kD (n:=28) func109 ?_;refine kS (Rk d m room fs _ (⟨hB,hM,hF,hmd,hfd,hfm,hok⟩:Bv _ d m room fs)) ?_;rintro _ _ ⟨rfl,rfl⟩;refine kE (Bp (b:=true) rfl) ?_;refine kH ?_;refine kS (YJ name _ Zo) ?_;rintro _ a1 ⟨rfl,a0⟩;have K0:=(a0:As w _);refine jG ?_;replace hB:=hB.ext a0;replace hM:=hM.ext a0;replace hF:=hF.ext a0;refine jF ?_ ?_
 ·intro hc10;refine kM func109 ?_;exact⟨_,rfl,K0,.inl ⟨by simpa using hc10,rfl⟩⟩
 intro hc10;refine Et ?_;by_cases hh:∃f∈fs,f.name=name
 ·obtain⟨f,hf,hfn⟩:=hh;obtain⟨l1,l2,hfs⟩:=AbA hf;refine jG ?_;refine jV (Di (v':=jp f.blk) (CT underlying118 underlying9 rfl ty121 rfl rfl hM) (Mn hnd hfs hfn)) ?_;refine kE (DK (DB underlying121 rfl rfl) rfl) ?_;refine kH ?_;refine kE (Di (v':=jp f.blk) (CT underlying118 underlying9 rfl ty121 rfl rfl hM) (Mn hnd hfs hfn)) ?_;refine jK func109 ?_;exact⟨_,rfl,K0,.inr (.inr ⟨by simpa using hc10,l1,f,l2,hfs,hfn,rfl⟩)⟩
 have hno:∀f∈fs,f.name≠name:=λf hf e=>hh ⟨f,hf,e⟩
 refine jG ?_;refine jV (Di (v':= .pointer none) (CT underlying118 underlying9 rfl ty121 rfl rfl hM) (P4 hno)) ?_;refine kE (DR (DB underlying121 rfl rfl) rfl) ?_;refine C8 ?_;refine kM func109 ?_;exact⟨_,rfl,K0,.inr (.inl ⟨by simpa using hc10,hno,rfl⟩)⟩
def Ye (d m:Nat)(room:Int)(fs:List Am)(w:World)(hD:Bv w d m room fs):
  Calls prog 157 #[jp d] w (AU (λv w'=>v= .int .i64 ((A4 (fs.map Am.p):Nat):Int)/\As w w')):=by
 obtain⟨hB,hM,hF,hmd,hfd,hfm,hok⟩:=hD;have hnd:=Bv.names hok;have hlens:=Ce.lens hok;have hroom:=hok.room;have hused:=hok.used;have hcnt:=hok.len;rw[Aad]at hcnt;refine kD (n:=25) func157 ?_;refine kS (Rk d m room fs _ (⟨hB,hM,hF,hmd,hfd,hfm,hok⟩:Bv _ d m room fs)) ?_;rintro _ _ ⟨rfl,rfl⟩;refine kI ?_;refine jR<|AB.rangeMap underlying118 rfl hM ?_;intro a0 ag a1 a6 a2;have ac:=Ay (BB a1) hB.lt;have ad:=Ag (BB a1) hM.oL;have ae:=Ag (BB a1) hF.oL;have af:=Bg (Aac _) (BB a1);clear a1;have K0:=(a2:As w _);refine jG ?_;replace hB:=hB.ext a2;replace hM:=hM.ext a2;replace hF:=hF.ext a2;refine Ai.loop (ι:=Nat) (λk ρ' w'=>∃rs:List Am,∃la:Option (ByteArray×Value),∃n:Nat,Holds ρ' [(3,.int .i64 ((n:Nat):Int)),(12,jp a0)]/\As w w'/\(AC w' d [.map (some m),.int .i64 room] 120)/\(Aq w' m (BG fs))/\(A3 w' fs)/\(Cj w' a0 m (BG rs) la)/\(¬one a0 d)/\(∀q_,one a0 q_->¬one m q_)/\(∀q_,one a0 q_->¬AF fs q_)/\(∀q_,one a0 q_->w.heap.size<=q_)/\(k=rs.length)/\(n+A4 (rs.map Am.p)=A4 (fs.map Am.p))/\(∀f∈rs,f∈fs)) (λk=>k) fs.length ?_ ?_
 ·refine⟨fs,none,0,⟨rfl,rfl,trivial⟩,K0,hB,hM,hF,a6,ac,ad,ae,af,?_,?_,?_⟩
  ·rfl
  ·omega
  exact λf h=>h
 clear hB hM hF a6;clear K0;rintro k ah ai ⟨rs,la,n,a7,K0,hB,hM,hF,a3,a8,a9,aa,ab,hk,hn,hsub⟩ ih1;obtain⟨ρ₀,rfl⟩:=a7.ex;clear a7;refine jG ?_;refine jR<|AB.nextMap rfl a3 ?_ ?_
 ·intro h0_18;replace h0_18:rs=[]:=by simpa[BG]using h0_18
  refine jG ?_;refine Ai.condF rfl ?_;have h0_:=h0_18;refine kL func157 ?_;have hn':n=A4 (fs.map Am.p):=by rw[h0_]at hn;simpa[A4]using hn
  exact⟨_,rfl,by rw[hn'],K0⟩
 intro jx aj ak al h0_22 a5 a4;obtain⟨f,hf,rfl,rfl⟩:=Om h0_22;clear h0_22;rw[KL]at a5;replace a3:=a5;clear a5;refine kI ?_;refine jV (Nj rfl a3) ?_;have hfm_:f∈fs:=hsub f (Aan hf);have hfl:=hlens f hfm_;replace hF:=hF.kO a4 (Zf aa);have hb:=(hF.all f hfm_).blk;refine jG ?_;refine jV (AA (c:=((n+f.bytes.length:Nat):Int)) (Av rfl rfl Zo Zo) rfl) ?_;clear hb;refine jG ?_;refine ih1 ((rs.eraseIdx jx).length) _ _ ?_ (by rw[hk];exact KN hf);replace hB:=hB.keep a4 a8;replace hM:=hM.kO a4 (Zf a9);replace K0:=K0.new a4 ab;refine⟨_,_,n+f.bytes.length,⟨rfl,rfl,trivial⟩,K0,hB,hM,hF,a3,a8,a9,aa,ab,?_,?_,?_⟩
 ·rfl
 ·have:=P5 hf;omega
 exact λf h=>hsub f (AbW h)
end Go.Proofs.YtjkaicjmfgekjaaGreatDoor
namespace Go.Proofs.YtjkaicjmfgekjaaGreatDoor
open Go.Proofs.Tryz
attribute [local irreducible] RD RS AB RL RA RT CB Ai
section
variable {w w':World}{f:Am}{fs fs' l1 l2:List Am}{d m:Nat}{room:Int}{n:ByteArray}{N:Nat}{pl:List PF}
def Bq {nm:ByteArray}{b:Nat}{a:Option Addr}{c:Nat}{xs:List UInt8}{s:Nat}:∀q,AF (l1++⟨nm,b,a,c,xs,s⟩::l2) q->q=b\/(own a q\/AF (l1++l2) q):=files_case
def I8 {nm:ByteArray}{b:Nat}{a:Option Addr}{c:Nat}{xs:List UInt8}{s:Nat}:∀q,AF (fs++[⟨nm,b,a,c,xs,s⟩]) q->q=b\/(own a q\/AF fs q):=λq h=>by
 have:=Bq (l2:=[]) q h;rwa[Aax]at this
def A3.snoc (h:Fo w f)(h1:A3 w fs)(h2:∀q,AF fs q->¬DX f q):A3 w (fs++[f]):=A3.close (l2:=[]) h (by rwa[Aax]) (by rwa[Aax])
def EJ (h:∀q,AF fs' q->q<N->Be d m fs q):∀q,Be d m fs' q->q<N->Be d m fs q:=by
 rintro q (rfl|rfl|h') hl
 ·exact .inl rfl
 ·exact .inr (.inl rfl)
 exact h q h' hl
def Mo {F F':Nat->Prop}(h:∀q,F' q->q<w.heap.size->F q):AR w F F':=λq hq=>by
 by_cases hl:q<w.heap.size
 ·exact .inl (h q hq hl)
 exact .inr Zo
def YK (h:∀f∈fs,f.name≠n):∀f∈fs.map Am.p,f.name≠n:=λx hx=>by obtain⟨f,hf,rfl⟩:=List.mem_map.1 hx;exact h f hf
def WC (h:Ce room (fs.map Am.p))(hm:CW n=false):∀f∈fs,f.name≠n:=λf hf e=>by
 have:=h.may f.p (List.mem_map.2 ⟨f,hf,rfl⟩)
 rw[show f.p.name=n from e,hm]at this;cases this
def Il (h:∀f∈fs,f.name≠n):CN (fs.map Am.p) n=false:=P0 (YK h)
def J2 (e:fs=l1++f::l2)(hf:f.name=n):CN (fs.map Am.p) n=true:=Bu.2 ⟨f.p,List.mem_map.2 ⟨f,CZ e,rfl⟩,hf⟩
def Hh (hm:CW n=false):CX pl n=6:=by rw[CX,hm];rfl
def Im (hm:CW n=true)(h:∀f∈fs,f.name≠n):CX (fs.map Am.p) n=20:=by rw[CX,hm,Il h];rfl
def In (hm:CW n=true)(e:fs=l1++f::l2)(hf:f.name=n):CX (fs.map Am.p) n=0:=by rw[CX,hm,J2 e hf];rfl
def Fp (hn:(fs.map (·.name)).Nodup)(e:fs=l1++f::l2)(hf:f.name=n):CD (fs.map Am.p) n=some f.p:=by
 subst hf;exact F3 (f:=f.p) (by rw[Ij];exact hn) (List.mem_map.2 ⟨f,CZ e,rfl⟩)
def GZ (h:∀f∈fs,f.name≠n):CD (fs.map Am.p) n=none:=KI (YK h)
def P6 {u:PF->PF}(hn:(fs.map (·.name)).Nodup)(e:fs=l1++f::l2)(hf:f.name=n):DW (fs.map Am.p) n u=l1.map Am.p++u f.p::l2.map Am.p:=by
 subst e;subst hf;rw[Aam,Aaf];exact KJ (f:=f.p) (by rw[<-Aaf,<-Aam,Ij];exact hn)
def P7 {u:PF->PF}(h:∀f∈pl,f.name≠n):DW pl n u=pl:=(AaE λx hx=>if_neg (h x hx)).trans (List.map_id'' (λ_=>rfl) _)
def No (hn:(fs.map (·.name)).Nodup)(e:fs=l1++f::l2)(hf:f.name=n):Br (fs.map Am.p) n=(l1++l2).map Am.p:=by
 subst e;subst hf;rw[Aam,Aaf,Aam];exact P2 (f:=f.p) (by rw[<-Aaf,<-Aam,Ij];exact hn)
def Rl (hn:(fs.map (·.name)).Nodup)(e:fs=l1++f::l2)(hf:f.name=n):(l1++⟨f.name,f.blk,f.a,f.cap,f.bytes,f.bytes.length⟩::l2).map Am.p=Cq (fs.map Am.p) n:=by
 rw[Cq,P6 hn e hf,Aam,Aaf];rfl
def Ce.upd {u:PF->PF}(h:Ce room pl)(hn:∀f,(u f).name=f.name)(hs:∀f∈pl,(u f).synced<=(u f).bytes.length)(hu:(A4 (DW pl n u):Int)<=room):Ce room (DW pl n u):=by
 have e:(DW pl n u).map (·.name)=pl.map (·.name):=by
  rw[DW,Aat];apply AaE;intro f _;simp only[Function.comp];split;exact hn f;rfl
 refine⟨by rw[e];exact h.nodup,?_,?_,hu,by rw[DW,Aad];exact h.len,h.room⟩
 ·intro x hx;have:x.name∈pl.map (·.name):=by rw[<-e];exact List.mem_map.2 ⟨x,hx,rfl⟩
  obtain⟨y,hy,e2⟩:=List.mem_map.1 this;rw[<-e2];exact h.may y hy
 intro x hx;obtain⟨y,hy,rfl⟩:=List.mem_map.1 hx;by_cases c:y.name=n
 ·rw[if_pos c];exact hs y hy
 rw[if_neg c];exact h.sync y hy
def LY {u:PF->PF}(h:∀f,(u f).bytes.length=f.bytes.length):A4 (DW pl n u)=A4 pl:=by
 rw[A4,DW,Aat,A4];congr 1;apply AaE;intro f _;simp only[Function.comp];split;exact h f;rfl
def Ce.syn (h:Ce room pl):Ce room (Cq pl n):=h.upd (λ_=>rfl) (λ_ _=>Aac _) (by rw[LY (u:=λf=>{f with synced:=f.bytes.length}) (λ_=>rfl)];exact h.used)
def Mp {a b:List PF}(h:a.Sublist b):A4 a<=A4 b:=by
 induction h with
 |slnil=>exact Aac _
 |cons x _ ih=>rw[A4,A4,Aaf,Abe];rw[A4,A4]at ih;omega
 |cons_cons x _ ih=>rw[A4,A4,Aaf,Abe,Aaf,Abe];rw[A4,A4]at ih;omega
def Ce.sub {a:List PF}(h:Ce room pl)(s:a.Sublist pl):Ce room a:=
 ⟨h.nodup.sublist (s.map _),λf hf=>h.may f (s.subset hf),λf hf=>h.sync f (s.subset hf),by have:=Mp s;have:=h.used;omega,Aaa s.length_le h.len,h.room⟩
def Ce.rem (h:Ce room pl):Ce room (Br pl n):=h.sub AbB
def JH (a b:List PF):A4 (a++b)=A4 a+A4 b:=by simp[A4]
def Np {b:List UInt8}(hn:(pl.map (·.name)).Nodup):A4 (DW pl n (λf=>{f with bytes:=f.bytes++b}))<=A4 pl+b.length:=by
 by_cases hh:∃f∈pl,f.name=n
 ·obtain⟨f,hf,rfl⟩:=hh;obtain⟨l1,l2,rfl⟩:=AbA hf;rw[KJ hn];simp[A4];omega
 rw[P7 (λf hf e=>hh ⟨f,hf,e⟩)];omega
def Ce.app {b:List UInt8}(h:Ce room pl):Ce room (Do room pl n b):=by
 unfold Do;split
 ·rename_i he;unfold Df at he;split at he
  ·rename_i hm;split at he
   ·cases he
   rename_i hc;have hu:=h.used;split
   ·refine h.upd (λ_=>rfl) (λf hf=>by have:=h.sync f hf;simp;omega) ?_;have:=Np (n:=n) (b:=b) h.nodup
    omega
   rename_i hh;have hno:∀f∈pl,f.name≠n:=λf hf e=>hh (Bu.2 ⟨f,hf,e⟩)
   have hh':CN pl n=false:=by simpa using hh
   refine⟨?_,?_,?_,?_,?_,h.room⟩
   ·rw[Aam,Aa1];refine⟨h.nodup,by simp,?_⟩;intro x hx y hy;obtain⟨f,hf,rfl⟩:=List.mem_map.1 hx;simp only[Aaf,Aav,Aah]at hy;subst hy;exact hno f hf
   ·intro f hf;rcases List.mem_append.1 hf with hf|hf
    ·exact h.may f hf
    simp only[Aah]at hf;subst hf;exact hm
   ·intro f hf;rcases List.mem_append.1 hf with hf|hf
    ·exact h.sync f hf
    simp only[Aah]at hf;subst hf;exact Aal _
   ·rw[JH];simp only[A4,Aaf,Aav,Abe,List.sum_nil]at*;omega
   rw[Aab];simp only[Aa2];simp only[hh',true_and]at hc;omega
  cases he
 exact h
def On {b:List UInt8}(hm:CW n=false):Df room pl n b=6:=by rw[Df,if_neg (by simp[hm])]
def Mq {b:List UInt8}(hm:CW n=true)(h:(CN pl n=false/\64<=pl.length)\/room-(A4 pl:Int)<(b.length:Int)):Df room pl n b=7:=by rw[Df,if_pos hm,if_pos h]
def Rm {b:List UInt8}(hm:CW n=true)(h:¬((CN pl n=false/\64<=pl.length)\/room-(A4 pl:Int)<(b.length:Int))):Df room pl n b=0:=by rw[Df,if_pos hm,if_neg h]
def Nq {b:List UInt8}(h:Df room pl n b≠0):Do room pl n b=pl:=by rw[Do,if_neg h]
def Uq {b:List UInt8}(he:Df room (fs.map Am.p) n b=0)(hn:(fs.map (·.name)).Nodup)(e:fs=l1++f::l2)(hf:f.name=n)(a:Option Addr)(c:Nat):
  (l1++⟨f.name,f.blk,a,c,f.bytes++b,f.synced⟩::l2).map Am.p=Do room (fs.map Am.p) n b:=by
 rw[Do,if_pos he,if_pos (J2 e hf),P6 hn e hf,Aam,Aaf];rfl
def Rn {b:List UInt8}(he:Df room (fs.map Am.p) n b=0)(h:∀f∈fs,f.name≠n)(x:Nat)(a:Option Addr)(c:Nat):
  (fs++[(⟨n,x,a,c,b,0⟩:Am)]).map Am.p=Do room (fs.map Am.p) n b:=by
 rw[Do,if_pos he,Il h,Aam];rfl
def Ss (nm:ByteArray)(x:Nat)(a a':Option Addr)(c c':Nat)(b b':List UInt8)(s s':Nat):BG (fs++[(⟨nm,x,a,c,b,s⟩:Am)])=BG (fs++[(⟨nm,x,a',c',b',s'⟩:Am)]):=by simp[BG,ent]
def Io (e:fs=l1++f::l2)(a:Option Addr)(c:Nat)(b:List UInt8)(s:Nat):BG fs=BG (l1++⟨f.name,f.blk,a,c,b,s⟩::l2):=by subst e;simp[BG,ent]
def Ce.nil (h:Ce room pl):Ce room []:=h.sub (List.nil_sublist _)
def Ce.empty (h:0<=room/\room<=16777216):Ce room (([]:List Am).map Am.p):=⟨by simp,λ_ h=>absurd h Zs,λ_ h=>absurd h Zs,by simp[A4];exact h.1,by simp,h⟩
def Mr (hn:(fs.map (·.name)).Nodup)(e:fs=l1++f::l2)(hf:f.name=n):GV (BG fs) n=BG (l1++l2):=by subst e;subst hf;exact Uo hn
def Ms (hn:(fs.map (·.name)).Nodup)(e:fs=l1++f::l2):((l1++l2).map (·.name)).Nodup:=by
 subst e;exact hn.sublist (((Acp f l2).append_left l1).map _)
def Oo {to:ByteArray}(hm:CW n=false):E9 pl n to=6:=by rw[E9,if_neg (by simp[hm])]
def Hi {to:ByteArray}(hm:CW n=true)(h2:CW to=false):E9 pl n to=6:=by rw[E9,if_pos hm,if_neg (by simp[h2])]
def Ro {to:ByteArray}(hm:CW n=true)(h2:CW to=true)(h:∀f∈fs,f.name≠n):E9 (fs.map Am.p) n to=20:=by rw[E9,if_pos hm,if_pos h2,Il h];rfl
def Rp {to:ByteArray}(hm:CW n=true)(h2:CW to=true)(e:fs=l1++f::l2)(hf:f.name=n):E9 (fs.map Am.p) n to=0:=by rw[E9,if_pos hm,if_pos h2,J2 e hf];rfl
def J3 {to:ByteArray}(h:E9 pl n to≠0):HD pl n to=pl:=by rw[HD,if_neg h]
def renFs :List Am->Am->List Am
 |[],g=>[g]
 |x::l,g=>if x.name=g.name then g::l else x::renFs l g
def I9 {l : List Am} {g x : Am} (h : x ∈ renFs l g) : x = g \/ x ∈ l := by
  induction l with
  | nil => simp [renFs] at h; exact .inl h
  | cons y l ih =>
    rw [renFs] at h;split at h
    · rcases List.mem_cons.1 h with h | h
      · exact .inl h
      exact .inr (Aau _ h)
    rcases List.mem_cons.1 h with h | h
    · exact .inr (by rw [h]; simp)
    rcases ih h with h | h
    · exact .inl h
    exact .inr (Aau _ h)
def Ur {nm : ByteArray} (h : Fo w f /\ A3 w (l1 ++ l2) /\ ∀ q, AF (l1 ++ l2) q -> ¬ DX f q) : A3 w (renFs (l1 ++ l2) ⟨nm, f.blk, f.a, f.cap, f.bytes, f.synced⟩) := by
  obtain ⟨h1, h2, h3⟩ := h;generalize l1 ++ l2 = l at *;refine ⟨λx hx => (I9 hx).elim (λe => by rw [e]; exact ⟨h1.blk, h1.own, h1.apart⟩) (λh => h2.all x h), ?_⟩;have key : ∀ (l : List Am), l.Pairwise (λf g => ∀ q, DX f q -> ¬ DX g q) -> (∀ x ∈ l, ∀ q, DX x q -> ¬ DX f q) -> (renFs l ⟨nm, f.blk, f.a, f.cap, f.bytes, f.synced⟩).Pairwise (λf g => ∀ q, DX f q -> ¬ DX g q) := by
    intro l;induction l with
    | nil => intro _ _; simp [renFs]
    | cons y l ih =>
      intro hp hx;obtain ⟨hp1, hp2⟩ := List.pairwise_cons.1 hp;rw [renFs];split
      · exact List.pairwise_cons.2 ⟨λz hz q hq hz2 => hx z (Aau _ hz) q hz2 hq, hp2⟩
      refine List.pairwise_cons.2 ⟨λz hz q hq hz2 => ?_, ih hp2 (λx h => hx x (Aau _ h))⟩;rcases I9 hz with rfl | hz
      · exact hx y Zs q hq hz2
      exact hp1 z hz q hq hz2
  exact key l h2.apart (λx hx q hq => h3 q ⟨x, hx, hq⟩)
def Ja {nm:ByteArray}(e:fs=l1++f::l2):∀q,AF (renFs (l1++l2) ⟨nm,f.blk,f.a,f.cap,f.bytes,f.synced⟩) q->AF fs q:=λq ⟨x,hx,hq⟩=>by
 subst e;rcases I9 hx with rfl|hx
 ·exact EI.2 (.inl hq)
 exact EI.2 (.inr ⟨x,hx,hq⟩)
def G1 {g : Am} : ∀ {l : List Am}, (l.map (·.name)).Nodup -> (∀ x ∈ l, x.name ≠ g.name) /\ renFs l g = l ++ [g] \/ ∃ a x b, l = a ++ x :: b /\ x.name = g.name /\ renFs l g = a ++ g :: b
  | [], _ => .inl ⟨λ_ h => by simp at h, rfl⟩
  | y :: l, hn => by
    simp only [Aaf, AaN] at hn;rw [renFs];by_cases c : y.name = g.name
    · rw [if_pos c]; exact .inr ⟨[], y, l, rfl, c, rfl⟩
    rw [if_neg c];rcases G1 (g := g) hn.2 with ⟨h1, h2⟩ | ⟨a, x, b, h1, h2, h3⟩
    · refine .inl ⟨λx hx => ?_, by rw [h2]; rfl⟩;rcases List.mem_cons.1 hx with rfl | hx
      · exact c
      exact h1 x hx
    exact .inr ⟨y :: a, x, b, by rw [h1]; rfl, h2, by rw [h3]; rfl⟩
def St {g:Am}{l:List Am}(hn:(l.map (·.name)).Nodup):C7 (BG l) g.name (jp g.blk)=BG (renFs l g):=by
 rcases G1 (g:=g) hn with⟨h1,h2⟩|⟨a,x,b,h1,h2,h3⟩
 ·rw[h2];exact Ik h1 g.blk g.a g.cap g.bytes g.synced
 rw[h3];subst h1;rw[<-h2];exact Nn hn g.blk g h2.symm rfl
def YL {to:ByteArray}(hok:Ce room (fs.map Am.p))(hn:(fs.map (·.name)).Nodup)(e:fs=l1++f::l2)(hf:f.name=n)(hm:CW n=true)(h2:CW to=true):
  ((renFs (l1++l2) ⟨to,f.blk,f.a,f.cap,f.bytes,f.synced⟩).map Am.p).Perm (HD (fs.map Am.p) n to)/\Ce room ((renFs (l1++l2) ⟨to,f.blk,f.a,f.cap,f.bytes,f.synced⟩).map Am.p):=by
 have hp:((renFs (l1++l2) ⟨to,f.blk,f.a,f.cap,f.bytes,f.synced⟩).map Am.p).Perm (Br ((l1++l2).map Am.p) to++[⟨to,f.bytes,f.synced⟩]):=by
  have hs:=Ms hn e;generalize l1++l2=l at*;rcases G1 (g:=⟨to,f.blk,f.a,f.cap,f.bytes,f.synced⟩) hs with⟨h1,h2⟩|⟨a,x,b,h1,h2,h3⟩
  ·rw[h2,I5 (YK h1),Aam];exact List.Perm.refl _
  subst h1;rw[h3,No hs rfl h2,Aam,Aaf,Aam];exact(List.perm_middle).trans (List.perm_append_singleton _ _).symm
 have he:HD (fs.map Am.p) n to=Br ((l1++l2).map Am.p) to++[⟨to,f.bytes,f.synced⟩]:=by
  rw[HD,if_pos (Rp hm h2 e hf),Fp hn e hf,No hn e hf];rfl
 refine⟨by rw[he];exact hp,Ce.perm ?_ hp.symm⟩;have hr:Ce room (Br ((l1++l2).map Am.p) to):=Ce.rem (hok.sub (by subst e;exact(((Acp f l2).append_left l1).map _)));have hu:A4 (Br ((l1++l2).map Am.p) to)+f.bytes.length<=A4 (fs.map Am.p)/\(Br ((l1++l2).map Am.p) to).length+1<=fs.length:=by
  subst e;have h1:A4 (Br ((l1++l2).map Am.p) to)<=A4 ((l1++l2).map Am.p):=Mp AbB;have h2:A4 ((l1++f::l2).map Am.p)=f.bytes.length+A4 ((l1++l2).map Am.p):=by simp[A4,Am.p];omega
  have h3:(Br ((l1++l2).map Am.p) to).length<=((l1++l2).map Am.p).length:=AaX _ _;simp only[Aad,Aab,Aaj]at h3⊢;omega
 have hus:=hok.used;have hle:=hok.len;rw[Aad]at hle;have hfl:=Ce.lens hok f (CZ e);refine⟨?_,?_,?_,?_,?_,hok.room⟩
 ·rw[Aam,Aa1];refine⟨hr.nodup,by simp,?_⟩;intro x hx y hy;obtain⟨z,hz,rfl⟩:=List.mem_map.1 hx;simp only[Aaf,Aav,Aah]at hy;subst hy;have:=(List.mem_filter.1 hz).2
  simpa using this
 ·intro x hx;rcases List.mem_append.1 hx with hx|hx
  ·exact hr.may x hx
  simp only[Aah]at hx;subst hx;exact h2
 ·intro x hx;rcases List.mem_append.1 hx with hx|hx
  ·exact hr.sync x hx
  simp only[Aah]at hx;subst hx;exact hfl.1
 ·rw[JH];simp only[A4,Aaf,Aav,Abe,List.sum_nil]at*;omega
 rw[Aab];simp only[Aa2];omega
end
attribute [local irreducible] X
def KP (a:Option Addr)(xs:List UInt8)(c:Nat)(w:World)(hs:Ax w a xs)(hl:xs.length<=4294967295):
  Calls prog 56 #[.slice a xs.length c] w (AU (λv w'=>∃a' c',v= .slice a' xs.length c'/\Af w' 5 a' c' xs/\(∀b,own a' b->w.heap.size<=b)/\As w w')):=by
 refine kD (n:=8) func56 ?_;refine kE (J1 underlying98 rfl rfl) ?_;refine Ai.cond rfl (λhc4=> ?_) (λhc4=> ?_)
 ·skip;refine kL func56 ?_;have hx:=hs.nil_of hc4;subst hx;exact⟨_,rfl,none,0,rfl,Af.nil _ _,λb h=>absurd h (Ad b),(Ae.refl _ w)⟩
 skip;refine jG ?_;refine jR<|AB.buildSlice ([]:List UInt8) underlying98 ty5 rfl rfl Ze ?_;intro ab ac a0 a4 a5;have a1:=Bg (Aac _) (Du a0);clear a0;have K0:=(a5:As w _);refine jG ?_;refine jR<|AB.append (xs:=([]:List UInt8)) (ys:=xs) underlying98 ty5 rfl rfl rfl a4 (hs.ext K0) Zr Zd ?_;intro a2 a6 ad a7 a8 a3 a9;have aa:∀q_,own a2 q_->w.heap.size<=q_:=a3.ge a1 K0.size;clear a3;clear a9;refine kL func56 ?_;replace K0:=K0.new a8 a1;exact⟨_,rfl,a2,a6,by rw[Aay],by simpa using a7,aa,K0⟩
def gM (d m:Nat)(room:Int)(fs:List Am)(name:ByteArray)(w:World)(hD:Bv w d m room fs)(hs:name.size<=4294967295):
  Calls prog 176 #[jp d,.string name] w (AU (λv w'=>∃a' c' bs,v= .tuple #[.slice a' bs.length c',.int .i64 (CX (fs.map Am.p) name)]/\Af w' 5 a' c' bs/\(∀b,own a' b->w.heap.size<=b)/\bs=((CD (fs.map Am.p) name).map (·.bytes)).getD []/\As w w')):=by
 obtain⟨hB,hM,hF,hmd,hfd,hfm,hok⟩:=hD;have hnd:=Bv.names hok;have hlens:=Ce.lens hok;have hroom:=hok.room;have hused:=hok.used;have hcnt:=hok.len;rw[Aad]at hcnt;refine kD (n:=22) func176 ?_;refine kS (KO d m room fs name _ (⟨hB,hM,hF,hmd,hfd,hfm,hok⟩:Bv _ d m room fs) Zo) ?_;rintro _ a7 ⟨a0,(⟨hmay,rfl⟩|⟨hmay,hno,rfl⟩|⟨hmay,l1,f,l2,hfs,hfn,rfl⟩)⟩
 ·replace hB:=hB.ext a0;have K0:=(a0:As w _);refine kI ?_;refine jK func176 ?_;replace hM:=hM.ext a0;replace hF:=hF.ext a0;exact⟨_,rfl,none,0,[],by rw[Hh hmay];rfl,Af.nil _ _,λb h=>absurd h (Ad b),by rw[GZ (WC hok hmay)];rfl,K0⟩
 ·replace hB:=hB.ext a0;have K0:=(a0:As w _);refine kI ?_;refine jK func176 ?_;replace hM:=hM.ext a0;replace hF:=hF.ext a0;exact⟨_,rfl,none,0,[],by rw[Im hmay hno];rfl,Af.nil _ _,λb h=>absurd h (Ad b),by rw[GZ hno];rfl,K0⟩
 replace hB:=hB.ext a0;have K0:=(a0:As w _);have hfl:=hlens f (CZ hfs);refine jG ?_;refine Ai.condF rfl ?_;replace hF:=hF.ext a0;have hfx:=hF.all f (CZ hfs);have hb:=hfx.blk;have hsl:=hfx.own.sl;refine jG ?_;refine kS (KP _ _ _ _ hsl Zo) ?_;rintro _ a8 ⟨a2,a3,rfl,a4,a1,a5⟩;have a6:=Bg K0.size a1;clear a1;refine kM func176 ?_;replace K0:=K0.ext a5;exact⟨_,rfl,a2,a3,f.bytes,by rw[In hmay hfs hfn],a4,a6,by rw[Fp hnd hfs hfn];rfl,K0⟩
def gN (d m:Nat)(room:Int)(fs:List Am)(name:ByteArray)(w:World)(hD:Bv w d m room fs)(hs:name.size<=4294967295):
  Calls prog 58 #[jp d,.string name] w (AU (λv w'=>v= .tuple #[.int .i64 ((((CD (fs.map Am.p) name).map (·.bytes.length)).getD 0:Nat):Int),.int .i64 ((((CD (fs.map Am.p) name).map (·.synced)).getD 0:Nat):Int),.int .i64 (CX (fs.map Am.p) name)]/\As w w')):=by
 obtain⟨hB,hM,hF,hmd,hfd,hfm,hok⟩:=hD;have hnd:=Bv.names hok;have hlens:=Ce.lens hok;have hroom:=hok.room;have hused:=hok.used;have hcnt:=hok.len;rw[Aad]at hcnt;refine kD (n:=26) func58 ?_;refine kS (KO d m room fs name _ (⟨hB,hM,hF,hmd,hfd,hfm,hok⟩:Bv _ d m room fs) Zo) ?_;rintro _ a2 ⟨a0,(⟨hmay,rfl⟩|⟨hmay,hno,rfl⟩|⟨hmay,l1,f,l2,hfs,hfn,rfl⟩)⟩
 ·replace hB:=hB.ext a0;have K0:=(a0:As w _);refine kI ?_;refine Ai.ret3 (v:= .int .i64 0) (x:= .int .i64 0) (y:= .int .i64 6) func58 rfl rfl rfl rfl ?_;replace hM:=hM.ext a0;replace hF:=hF.ext a0;exact⟨_,rfl,by rw[Hh hmay,GZ (WC hok hmay)];rfl,K0⟩
 ·replace hB:=hB.ext a0;have K0:=(a0:As w _);refine kI ?_;refine Ai.ret3 (v:= .int .i64 0) (x:= .int .i64 0) (y:= .int .i64 20) func58 rfl rfl rfl rfl ?_;replace hM:=hM.ext a0;replace hF:=hF.ext a0;exact⟨_,rfl,by rw[Im hmay hno,GZ hno];rfl,K0⟩
 replace hB:=hB.ext a0;have K0:=(a0:As w _);have hfl:=hlens f (CZ hfs);refine kG ?_;replace hF:=hF.ext a0;have hfx:=hF.all f (CZ hfs);have hb:=hfx.blk;have hsl:=hfx.own.sl;refine Ai.drawR ?_;intro a3 a1;replace hb:=hb.ext a1;refine jG ?_;refine Ai.ret3 (v:= .int .i64 ((f.bytes.length:Nat):Int)) (x:= .int .i64 ((f.synced:Nat):Int)) (y:= .int .i64 0) func58 rfl rfl rfl rfl ?_;replace K0:=K0.ext a1;exact⟨_,rfl,by rw[In hmay hfs hfn,Fp hnd hfs hfn];rfl,K0⟩
def gO (d m:Nat)(room:Int)(fs:List Am)(name:ByteArray)(w:World)(hD:Bv w d m room fs)(hs:name.size<=4294967295):
  Calls prog 93 #[jp d,.string name] w (AU (λv w'=>∃fs',v= .int .i64 (CX (fs.map Am.p) name)/\Bv w' d m room fs'/\fs'.map Am.p=Cq (fs.map Am.p) name/\(∀q,Be d m fs' q->q<w.heap.size->Be d m fs q)/\Ae (Be d m fs) w w')):=by
 obtain⟨hB,hM,hF,hmd,hfd,hfm,hok⟩:=hD;have hnd:=Bv.names hok;have hlens:=Ce.lens hok;have hroom:=hok.room;have hused:=hok.used;have hcnt:=hok.len;rw[Aad]at hcnt;refine kD (n:=24) func93 ?_;refine kS (KO d m room fs name _ (⟨hB,hM,hF,hmd,hfd,hfm,hok⟩:Bv _ d m room fs) Zo) ?_;rintro _ ac ⟨a0,(⟨hmay,rfl⟩|⟨hmay,hno,rfl⟩|⟨hmay,l1,f,l2,hfs,hfn,rfl⟩)⟩
 ·replace hB:=hB.ext a0;have K0:=(a0:As w _).to (S:=(Be d m fs));refine kG ?_;refine jJ func93 ?_;replace hM:=hM.ext a0;replace hF:=hF.ext a0;exact⟨_,rfl,fs,by rw[Hh hmay],⟨hB,hM,hF,hmd,hfd,hfm,hok⟩,by rw[Cq,P7 (YK (WC hok hmay))],λ_ h _=>h,K0⟩
 ·replace hB:=hB.ext a0;have K0:=(a0:As w _).to (S:=(Be d m fs));refine kG ?_;refine jJ func93 ?_;replace hM:=hM.ext a0;replace hF:=hF.ext a0;exact⟨_,rfl,fs,by rw[Im hmay hno],⟨hB,hM,hF,hmd,hfd,hfm,hok⟩,by rw[Cq,P7 (YK hno)],λ_ h _=>h,K0⟩
 replace hB:=hB.ext a0;have K0:=(a0:As w _).to (S:=(Be d m fs));have hfl:=hlens f (CZ hfs);refine kJ ?_;replace hF:=hF.ext a0;obtain⟨hfa,hR,hRf⟩:=hF.openE hfs;obtain⟨hb,ho,hoa⟩:=hfa;have ad:f.blk≠d:=λe_=>hfd (by first|(rw[<-e_];exact(BC hfs))|rw[<-e_]);have a2:¬one m f.blk:=λh_=>hfm _ (BC hfs) h_;have a3:f.blk<w.heap.size->(Be d m fs) f.blk:=λhl_=>(λq_ h_ _=>Or.inr (Or.inr h_)) _ (BC hfs) hl_;have a5:¬own f.a d:=λh_=>hfd ((D7 hfs) _ h_);have a6:∀q_,own f.a q_->¬one m q_:=λq_ h_=>hfm q_ ((D7 hfs) q_ h_);have a7:¬AF (l1++l2) d:=λh_=>hfd ((Bt hfs) _ h_);have a8:∀q_,AF (l1++l2) q_->¬one m q_:=λq_ h_=>hfm q_ ((Bt hfs) q_ h_);clear hF;refine jG ?_;refine jR<|jS hb ?_;intro a4 hb a1;replace K0:=K0.trans a1 (λx hlt hx=>by simp only[one]at hx;subst hx;exact a3 hlt);refine kL func93 ?_;replace ho:=ho.kO a1 (Aa hoa);replace hR:=hR.kO a1 (Zx (λh_=>hRf _ h_ (Or.inl rfl)));have hF':A3 a4 (l1++(⟨f.name,f.blk,f.a,f.cap,f.bytes,f.bytes.length⟩:Am)::l2):=A3.close ⟨hb,ho,hoa⟩ hR (λq_ h1 h2=>h2.elim (λe_=>(λh_=>hRf _ h_ (Or.inl rfl)) (show AF (l1++l2) f.blk from(show q_=f.blk from e_)▸h1)) (λy_=>(λq_ h1 h2=>hRf q_ h1 (Or.inr h2)) q_ h1 y_));have a9:¬AF (l1++(⟨f.name,f.blk,f.a,f.cap,f.bytes,f.bytes.length⟩:Am)::l2) d:=λx_=>(Bq _ x_).elim (λe_=>absurd e_ Zo) (λy_=>y_.elim a5 (λy_=>a7 y_));have aa:∀q_,AF (l1++(⟨f.name,f.blk,f.a,f.cap,f.bytes,f.bytes.length⟩:Am)::l2) q_->¬one m q_:=λq_ x_ z_=>(Bq _ x_).elim (λe_=>a2 (show one m f.blk from e_▸z_)) (λy_=>y_.elim (λy_=>a6 q_ y_ z_) (λy_=>(λy_=>a8 q_ y_ z_) y_));have ab:∀q_,AF (l1++(⟨f.name,f.blk,f.a,f.cap,f.bytes,f.bytes.length⟩:Am)::l2) q_->q_<w.heap.size->(Be d m fs) q_:=λq_ x_ hl_=>(Bq _ x_).elim (λe_=>e_▸a3 (e_▸hl_)) (λy_=>y_.elim (λy_=>(λq_ h_ hl_=>(λq_ h_ _=>Or.inr (Or.inr h_)) q_ ((D7 hfs) q_ h_) hl_) q_ y_ hl_) (λy_=>(λy_=>(λq_ h_ hl_=>(λq_ h_ _=>Or.inr (Or.inr h_)) q_ ((Bt hfs) q_ h_) hl_) q_ y_ hl_) y_));replace hM:=(hM.ext a0).kO a1 (Aa a2);have hme:Aq a4 m (BG (l1++(⟨f.name,f.blk,f.a,f.cap,f.bytes,f.bytes.length⟩:Am)::l2)):=by first|exact hM|(have h_:=hM;rw[Io hfs]at h_;exact h_)
 replace hB:=hB.kp a1;exact⟨_,rfl,(l1++(⟨f.name,f.blk,f.a,f.cap,f.bytes,f.bytes.length⟩:Am)::l2),by rw[In hmay hfs hfn],⟨hB,hme,hF',hmd,a9,aa,by rw[Rl hnd hfs hfn];exact hok.syn⟩,Rl hnd hfs hfn,EJ ab,K0⟩
def append_ (d m:Nat)(room:Int)(fs:List Am)(name:ByteArray)(a:Option Addr)(b:List UInt8)(c:Nat)(w:World)(hD:Bv w d m room fs)(hs:name.size<=4294967295)(hsl:Ax w a b)(hdis:∀x,a=some x->b≠ []->¬Be d m fs x.block)(hbl:b.length<=4294967295):
  Calls prog 95 #[jp d,.string name,.slice a b.length c] w (AU (λv w'=>∃fs',v= .int .i64 (Df room (fs.map Am.p) name b)/\Bv w' d m room fs'/\fs'.map Am.p=Do room (fs.map Am.p) name b/\(∀q,Be d m fs' q->q<w.heap.size->Be d m fs q)/\Ae (Be d m fs) w w')):=by
 obtain⟨hB,hM,hF,hmd,hfd,hfm,hok⟩:=hD;have hnd:=Bv.names hok;have hlens:=Ce.lens hok;have hroom:=hok.room;have hused:=hok.used;have hcnt:=hok.len;rw[Aad]at hcnt;have hel:(BG fs).length=fs.length:=Aad ..;refine kD (n:=63) func95 ?_;refine kS (KO d m room fs name _ (⟨hB,hM,hF,hmd,hfd,hfm,hok⟩:Bv _ d m room fs) Zo) ?_;rintro _ aT ⟨a1,(⟨hmay,rfl⟩|⟨hmay,hno,rfl⟩|⟨hmay,l1,f,l2,hfs,hfn,rfl⟩)⟩
 ·replace hB:=hB.ext a1;have K0:=(a1:As w _).to (S:=(Be d m fs));refine jG ?_;refine kE (BP rfl rfl rfl) ?_;refine C8 ?_;refine kL func95 ?_;replace hM:=hM.ext a1;replace hF:=hF.ext a1;exact⟨_,rfl,fs,by rw[On hmay],⟨hB,hM,hF,hmd,hfd,hfm,hok⟩,by rw[Nq (by rw[On hmay];decide)],λ_ h _=>h,K0⟩
 ·replace hB:=hB.ext a1;have K0:=(a1:As w _).to (S:=(Be d m fs));refine jG ?_;refine kE (BP rfl rfl rfl) ?_;refine kH ?_;refine Ai.drawS [] [0,1,2,3,4,5,1006,1007,8,9,10,11,12,13,14,15,1016,17,2018,19,20,21] ?_;intro aU ae;replace hM:=(hM.ext a1).ext ae;replace hB:=hB.ext ae;refine⟨λw'=>AC w' d [.map (some m),.int .i64 room] 120/\Aq w' m (BG fs)/\True,⟨hB,hM,trivial⟩,?_⟩;refine jG ?_;refine jP ?_ (hx:=by exact λ_=>(DR (DB underlying121 rfl rfl) rfl));refine jG ?_;refine jI ?_ (hx:=by exact(λhg=>by rintro _ ⟨hB,hM,-⟩;exact(Oi underlying118 rfl hM)));refine jG ?_;refine jP ?_ (hx:=by exact λ_=>(BP rfl rfl rfl));refine jG ?_;replace hF:=(hF.ext a1).ext ae;refine jZ (λhg=>(Ye d m room fs _ (⟨hB,hM,hF,hmd,hfd,hfm,hok⟩:Bv _ d m room fs))) ?_;intro aV af;replace hB:=hB.ext af;replace hM:=hM.ext af;refine jG ?_;refine jQ ?_ (hx:=by exact λ_ hg=>(B8 (B4 hg) (B4 hg) Zo Zo));refine jG ?_;refine jP ?_ (hx:=by exact λ_=>(Er rfl rfl rfl));refine jG ?_;replace K0:=(K0.ext ae).ext af;replace hF:=hF.ext af;refine jF ?_ ?_
  ·intro hc43;refine kL func95 ?_;have he7:Df room (fs.map Am.p) name b=7:=Mq hmay (by first|exact .inr hc43|(rcases hc43 with h|h;exact .inl ⟨Il hno,by rw[Aad];omega⟩;exact .inr h));exact⟨_,rfl,fs,by rw[he7],⟨hB,hM,hF,hmd,hfd,hfm,hok⟩,by rw[Nq (by rw[he7];decide)],λ_ h _=>h,K0⟩
  intro hc43;have he0:Df room (fs.map Am.p) name b=0:=Rm hmay (by rintro(⟨h1,h2⟩|h1);rw[Aad]at h2;omega;omega);refine jG ?_;refine kE (DR (DB underlying121 rfl rfl) rfl) ?_;refine C8 ?_;refine jG ?_;refine jV (AO (cells:=#[.slice none 0 0,.int .i64 0]) Zk) ?_;refine kQ ?_;intro a0 aW a9 a4 ag;have aX:=Ak hB.lt a9;have am:=An hM.oL a9;have ao:=An hF.oL a9;have:=Aaa K0.size a9;clear a9;replace hB:=hB.ext ag;refine jG ?_;replace hM:=hM.ext ag;refine jR<|AB.mapUpdate (v:=jp a0) underlying118 underlying9 rfl rfl rfl rfl hM ?_;intro ap ah ai;replace ah:Aq ap m (BG (fs++[⟨name,a0,none,0,[],0⟩])):=(Ik hno a0 none 0 [] 0▸ah);replace K0:=K0.ext ag;replace K0:=K0.trans ai (λx hlt hx=>(λq_ h_ _=>Or.inr (Or.inl h_)) x hx hlt);replace hM:=ah;clear ah;replace a4:=a4.keep ai am;refine jG ?_;have aA:=Af.nil (α:=UInt8) ap 5;refine jR<|AB.append (xs:=([]:List UInt8)) (ys:=b) underlying98 ty5 rfl rfl rfl aA (hsl.keepN K0 hdis) Zr Zd ?_;intro a2 a5 aY aj aa a6 aB;replace hB:=hB.keep ai hmd;have aC:¬own a2 d:=a6.not (Ad d) hB.lt;have aD:∀q_,own a2 q_->¬one m q_:=a6.apart (λq_ h1 _=>Ad q_ h1) hM.oL;replace hF:=(hF.ext ag).kO ai hfm;have aE:∀q_,own a2 q_->¬AF fs q_:=a6.apart (λq_ h1 _=>Ad q_ h1) hF.oL;have aq:¬own a2 a0:=a6.not (Ad a0) a4.lt;have aF:∀q_,own a2 q_->q_<w.heap.size->(Be d m fs) q_:=a6.inS (λq_ h1 _=>absurd h1 (Ad q_)) K0.size;replace K0:=K0.trans aa (λx hlt hx=>(λq_ h1 _=>absurd h1 (Ad q_)) x hx hlt);clear a6;clear aB;refine jG ?_;replace a4:=a4.keep aa (Ad a0);refine jR<|jS a4 ?_;intro ar a4 ab;replace K0:=K0.n1 ab;refine kL func95 ?_;replace aj:=aj.kO ab (Aa aq);simp only[Aay]at a4 aj;replace hF:=(hF.kO aa (λq_ h1 h2=>(λq_ h1 _=>Ad q_ h1) q_ h2 h1)).kO ab (Aa ao);have hF':A3 ar (fs++[(⟨name,a0,a2,a5,b,0⟩:Am)]):=A3.snoc ⟨a4,aj,aq⟩ hF (λq_ h1 h2=>h2.elim (λe_=>ao (show AF fs a0 from(show q_=a0 from e_)▸h1)) (λy_=>(Zf aE) q_ h1 y_));have aG:¬AF (fs++[(⟨name,a0,a2,a5,b,0⟩:Am)]) d:=λx_=>(I8 _ x_).elim (λe_=>absurd e_ Zo) (λy_=>y_.elim aC (λy_=>hfd y_));have aH:∀q_,AF (fs++[(⟨name,a0,a2,a5,b,0⟩:Am)]) q_->¬one m q_:=λq_ x_ z_=>(I8 _ x_).elim (λe_=>am (show one m a0 from e_▸z_)) (λy_=>y_.elim (λy_=>aD q_ y_ z_) (λy_=>(λy_=>hfm q_ y_ z_) y_));have aI:∀q_,AF (fs++[(⟨name,a0,a2,a5,b,0⟩:Am)]) q_->q_<w.heap.size->(Be d m fs) q_:=λq_ x_ hl_=>(I8 _ x_).elim (λe_=>absurd hl_ Zo) (λy_=>y_.elim (λy_=>aF q_ y_ hl_) (λy_=>(λy_=>(λq_ h_ _=>Or.inr (Or.inr h_)) q_ y_ hl_) y_));replace hM:=(hM.kO aa (λq_ h1 h2=>(λq_ h1 _=>Ad q_ h1) q_ h2 h1)).kO ab (Aa am);have hme:Aq ar m (BG (fs++[(⟨name,a0,a2,a5,b,0⟩:Am)])):=by first|exact hM|(have h_:=hM;rw[Ss name a0 none a2 0 a5 [] b 0 0]at h_;exact h_)
  replace hB:=(hB.keep aa (Ad d)).kp ab;exact⟨_,rfl,(fs++[(⟨name,a0,a2,a5,b,0⟩:Am)]),by rw[he0],⟨hB,hme,hF',hmd,aG,aH,by rw[Rn he0 hno _ _ _];exact hok.app⟩,Rn he0 hno _ _ _,EJ aI,K0⟩
 replace hB:=hB.ext a1;have K0:=(a1:As w _).to (S:=(Be d m fs));have hfl:=hlens f (CZ hfs);refine jG ?_;refine kE (Bo (b:=false) (e:=false) rfl rfl rfl) ?_;refine kH ?_;refine Ai.drawS [] [0,1,2,3,4,5,6,7,8,9,10,11,12,13,14,15,1016,17,2018,19,20,21] ?_;intro aZ ak;replace hB:=hB.ext ak;refine kF (jb hB Jn) ?_;refine jP ?_ (hx:=by exact λ_=>(DK (DB underlying121 rfl rfl) rfl));refine jG ?_;refine jP ?_ (hx:=by exact λ_=>(Bo (b:=false) (e:=false) rfl rfl rfl));refine jG ?_;replace hM:=(hM.ext a1).ext ak;replace hF:=(hF.ext a1).ext ak;refine jX rfl<|jC (Ye d m room fs _ (⟨hB,hM,hF,hmd,hfd,hfm,hok⟩:Bv _ d m room fs)) ?_;rintro _ b0 ⟨rfl,al⟩;replace hB:=hB.ext al;refine jG ?_;refine jQ ?_ (hx:=by exact λ_ hg=>(B8 rfl rfl Zo Zo));refine jG ?_;refine jP ?_ (hx:=by exact λ_=>(Ed rfl rfl rfl));refine jG ?_;replace K0:=(K0.ext ak).ext al;replace hM:=hM.ext al;replace hF:=hF.ext al;refine jF ?_ ?_
 ·intro hc43;refine kL func95 ?_;have he7:Df room (fs.map Am.p) name b=7:=Mq hmay (by first|exact .inr hc43|(rcases hc43 with h|h;exact .inl ⟨Il hno,by rw[Aad];omega⟩;exact .inr h));exact⟨_,rfl,fs,by rw[he7],⟨hB,hM,hF,hmd,hfd,hfm,hok⟩,by rw[Nq (by rw[he7];decide)],λ_ h _=>h,K0⟩
 intro hc43;have he0:Df room (fs.map Am.p) name b=0:=Rm hmay (by rintro(⟨h1,h2⟩|h1);rw[J2 hfs hfn]at h1;cases h1;omega);refine jG ?_;refine kE (DK (DB underlying121 rfl rfl) rfl) ?_;refine Ai.condF rfl ?_;obtain⟨hfa,hR,hRf⟩:=hF.openE hfs;obtain⟨hb,ho,hoa⟩:=hfa;have b1:f.blk≠d:=λe_=>hfd (by first|(rw[<-e_];exact(BC hfs))|rw[<-e_]);have au:¬one m f.blk:=λh_=>hfm _ (BC hfs) h_;have av:f.blk<w.heap.size->(Be d m fs) f.blk:=λhl_=>(λq_ h_ _=>Or.inr (Or.inr h_)) _ (BC hfs) hl_;have aw:¬own f.a d:=λh_=>hfd ((D7 hfs) _ h_);have ax:∀q_,own f.a q_->¬one m q_:=λq_ h_=>hfm q_ ((D7 hfs) q_ h_);have aJ:¬AF (l1++l2) d:=λh_=>hfd ((Bt hfs) _ h_);have aK:∀q_,AF (l1++l2) q_->¬one m q_:=λq_ h_=>hfm q_ ((Bt hfs) q_ h_);clear hF;refine jG ?_;refine jR<|AB.append (xs:=f.bytes) (ys:=b) underlying98 ty5 rfl rfl rfl ho (hsl.keepN K0 hdis) Zr Zd ?_;intro a3 a7 b2 an ac a8 aL;have aM:¬own a3 d:=a8.not aw hB.lt;have aN:∀q_,own a3 q_->¬one m q_:=a8.apart ax hM.oL;have ay:¬own a3 f.blk:=a8.not hoa hb.lt;have aO:∀q_,own a3 q_->¬AF (l1++l2) q_:=a8.apart (λq_ h1 h2=>(λq_ h1 h2=>hRf q_ h1 (Or.inr h2)) q_ h2 h1) hR.oL;have aP:∀q_,own a3 q_->q_<w.heap.size->(Be d m fs) q_:=a8.inS (λq_ h_ hl_=>(λq_ h_ _=>Or.inr (Or.inr h_)) q_ ((D7 hfs) q_ h_) hl_) K0.size;replace K0:=K0.trans ac (λx hlt hx=>(λq_ h_ hl_=>(λq_ h_ _=>Or.inr (Or.inr h_)) q_ ((D7 hfs) q_ h_) hl_) x hx hlt);clear a8;clear aL;refine jG ?_;replace hb:=hb.keep ac hoa;refine jR<|jS hb ?_;intro az hb ad;replace K0:=K0.trans ad (λx hlt hx=>by simp only[one]at hx;subst hx;exact av hlt);refine kL func95 ?_;replace hR:=(hR.kO ac (λq_ h1 h2=>hRf q_ h1 (Or.inr h2))).kO ad (Zx (λh_=>hRf _ h_ (Or.inl rfl)));replace an:=an.kO ad (Aa ay);have hF':A3 az (l1++(⟨f.name,f.blk,a3,a7,f.bytes++b,f.synced⟩:Am)::l2):=A3.close ⟨hb,an,ay⟩ hR (λq_ h1 h2=>h2.elim (λe_=>(λh_=>hRf _ h_ (Or.inl rfl)) (show AF (l1++l2) f.blk from(show q_=f.blk from e_)▸h1)) (λy_=>(Zf aO) q_ h1 y_));have aQ:¬AF (l1++(⟨f.name,f.blk,a3,a7,f.bytes++b,f.synced⟩:Am)::l2) d:=λx_=>(Bq _ x_).elim (λe_=>absurd e_ Zo) (λy_=>y_.elim aM (λy_=>aJ y_));have aR:∀q_,AF (l1++(⟨f.name,f.blk,a3,a7,f.bytes++b,f.synced⟩:Am)::l2) q_->¬one m q_:=λq_ x_ z_=>(Bq _ x_).elim (λe_=>au (show one m f.blk from e_▸z_)) (λy_=>y_.elim (λy_=>aN q_ y_ z_) (λy_=>(λy_=>aK q_ y_ z_) y_));have aS:∀q_,AF (l1++(⟨f.name,f.blk,a3,a7,f.bytes++b,f.synced⟩:Am)::l2) q_->q_<w.heap.size->(Be d m fs) q_:=λq_ x_ hl_=>(Bq _ x_).elim (λe_=>e_▸av (e_▸hl_)) (λy_=>y_.elim (λy_=>aP q_ y_ hl_) (λy_=>(λy_=>(λq_ h_ hl_=>(λq_ h_ _=>Or.inr (Or.inr h_)) q_ ((Bt hfs) q_ h_) hl_) q_ y_ hl_) y_));replace hM:=(hM.kO ac (Zf ax)).kO ad (Aa au);have hme:Aq az m (BG (l1++(⟨f.name,f.blk,a3,a7,f.bytes++b,f.synced⟩:Am)::l2)):=by first|exact hM|(have h_:=hM;rw[Io hfs]at h_;exact h_)
 replace hB:=(hB.keep ac aw).kp ad;exact⟨_,rfl,(l1++(⟨f.name,f.blk,a3,a7,f.bytes++b,f.synced⟩:Am)::l2),by rw[he0],⟨hB,hme,hF',hmd,aQ,aR,by rw[Uq he0 hnd hfs hfn _ _];exact hok.app⟩,Uq he0 hnd hfs hfn _ _,EJ aS,K0⟩
def WD (d m:Nat)(room:Int)(fs:List Am)(name:ByteArray)(w:World)(hD:Bv w d m room fs)(hs:name.size<=4294967295):
  Calls prog 112 #[jp d,.string name] w (AU (λv w'=>∃fs',v= .int .i64 (CX (fs.map Am.p) name)/\Bv w' d m room fs'/\fs'.map Am.p=Br (fs.map Am.p) name/\(∀q,Be d m fs' q->q<w.heap.size->Be d m fs q)/\Ae (Be d m fs) w w')):=by
 obtain⟨hB,hM,hF,hmd,hfd,hfm,hok⟩:=hD;have hnd:=Bv.names hok;have hlens:=Ce.lens hok;have hroom:=hok.room;have hused:=hok.used;have hcnt:=hok.len;rw[Aad]at hcnt;refine kD (n:=21) func112 ?_;refine kS (KO d m room fs name _ (⟨hB,hM,hF,hmd,hfd,hfm,hok⟩:Bv _ d m room fs) Zo) ?_;rintro _ a6 ⟨a0,(⟨hmay,rfl⟩|⟨hmay,hno,rfl⟩|⟨hmay,l1,f,l2,hfs,hfn,rfl⟩)⟩
 ·replace hB:=hB.ext a0;have K0:=(a0:As w _).to (S:=(Be d m fs));refine kG ?_;refine jJ func112 ?_;replace hM:=hM.ext a0;replace hF:=hF.ext a0;exact⟨_,rfl,fs,by rw[Hh hmay],⟨hB,hM,hF,hmd,hfd,hfm,hok⟩,by rw[I5 (YK (WC hok hmay))],λ_ h _=>h,K0⟩
 ·replace hB:=hB.ext a0;have K0:=(a0:As w _).to (S:=(Be d m fs));refine kG ?_;refine jJ func112 ?_;replace hM:=hM.ext a0;replace hF:=hF.ext a0;exact⟨_,rfl,fs,by rw[Im hmay hno],⟨hB,hM,hF,hmd,hfd,hfm,hok⟩,by rw[I5 (YK hno)],λ_ h _=>h,K0⟩
 replace hB:=hB.ext a0;have K0:=(a0:As w _).to (S:=(Be d m fs));have hfl:=hlens f (CZ hfs);refine kI ?_;replace hM:=hM.ext a0;refine jR<|AB.deleteMap underlying118 underlying9 rfl rfl rfl hM ?_;intro a2 a1 a3;replace a1:Aq a2 m (BG (l1++l2)):=(by have h_:=a1;rw[Mr hnd hfs hfn]at h_;exact h_);replace K0:=K0.trans a3 (λx hlt hx=>(λq_ h_ _=>Or.inr (Or.inl h_)) x hx hlt);replace hM:=a1;clear a1;refine kL func112 ?_;replace hF:=(hF.ext a0).kO a3 hfm;have hF':A3 a2 (l1++l2):=(hF.openE hfs).2.1;have a4:¬AF (l1++l2) d:=λh_=>hfd ((Bt hfs) _ h_);have a5:∀q_,AF (l1++l2) q_->¬one m q_:=λq_ h_=>hfm q_ ((Bt hfs) q_ h_);have hme:Aq a2 m (BG (l1++l2)):=by first|exact hM|(have h_:=hM;rw[Io hfs]at h_;exact h_)
 replace hB:=hB.keep a3 hmd;exact⟨_,rfl,(l1++l2),by rw[In hmay hfs hfn],⟨hB,hme,hF',hmd,a4,a5,by rw[(No hnd hfs hfn).symm];exact hok.rem⟩,(No hnd hfs hfn).symm,EJ (λq_ h_ hl_=>(λq_ h_ _=>Or.inr (Or.inr h_)) q_ ((Bt hfs) q_ h_) hl_),K0⟩
def WE (d m:Nat)(room:Int)(fs:List Am)(name name2:ByteArray)(w:World)(hD:Bv w d m room fs)(hs:name.size<=4294967295)(hs2:name2.size<=4294967295):
  Calls prog 189 #[jp d,.string name,.string name2] w (AU (λv w'=>∃fs',v= .int .i64 (E9 (fs.map Am.p) name name2)/\Bv w' d m room fs'/\(fs'.map Am.p).Perm (HD (fs.map Am.p) name name2)/\(∀q,Be d m fs' q->q<w.heap.size->Be d m fs q)/\Ae (Be d m fs) w w')):=by
 obtain⟨hB,hM,hF,hmd,hfd,hfm,hok⟩:=hD;have hnd:=Bv.names hok;have hlens:=Ce.lens hok;have hroom:=hok.room;have hused:=hok.used;have hcnt:=hok.len;rw[Aad]at hcnt;refine kD (n:=39) func189 ?_;refine kS (KO d m room fs name _ (⟨hB,hM,hF,hmd,hfd,hfm,hok⟩:Bv _ d m room fs) Zo) ?_;rintro _ ab ⟨a0,(⟨hmay,rfl⟩|⟨hmay,hno,rfl⟩|⟨hmay,l1,f,l2,hfs,hfn,rfl⟩)⟩
 ·replace hB:=hB.ext a0;have K0:=(a0:As w _).to (S:=(Be d m fs));refine jG ?_;refine kE (Ed rfl rfl rfl) ?_;refine C8 ?_;refine kL func189 ?_;replace hM:=hM.ext a0;replace hF:=hF.ext a0;exact⟨_,rfl,fs,by rw[Oo hmay],⟨hB,hM,hF,hmd,hfd,hfm,hok⟩,by rw[J3 (by rw[Oo hmay];decide)],λ_ h _=>h,K0⟩
 ·replace hB:=hB.ext a0;have K0:=(a0:As w _).to (S:=(Be d m fs));refine jG ?_;refine kE (Ed rfl rfl rfl) ?_;refine kH ?_;refine kS (YJ name2 _ Zo) ?_;rintro _ ac ⟨rfl,a1⟩;refine jG ?_;replace hM:=(hM.ext a0).ext a1;replace hF:=(hF.ext a0).ext a1;replace hB:=hB.ext a1;replace K0:=K0.ext a1;refine jF ?_ ?_
  ·intro hc24;refine kL func189 ?_;exact⟨_,rfl,fs,by rw[Hi hmay (by simpa using hc24)],⟨hB,hM,hF,hmd,hfd,hfm,hok⟩,by rw[J3 (by rw[Hi hmay (by simpa using hc24)];decide)],λ_ h _=>h,K0⟩
  intro hc24;refine kI ?_;refine jJ func189 ?_;exact⟨_,rfl,fs,by rw[Ro hmay (by simpa using hc24) hno],⟨hB,hM,hF,hmd,hfd,hfm,hok⟩,by rw[J3 (by rw[Ro hmay (by simpa using hc24) hno];decide)],λ_ h _=>h,K0⟩
 replace hB:=hB.ext a0;have K0:=(a0:As w _).to (S:=(Be d m fs));have hfl:=hlens f (CZ hfs);refine jG ?_;refine kE (Ed rfl rfl rfl) ?_;refine kH ?_;refine kS (YJ name2 _ Zo) ?_;rintro _ ad ⟨rfl,a2⟩;refine jG ?_;replace hM:=(hM.ext a0).ext a2;replace hF:=(hF.ext a0).ext a2;replace hB:=hB.ext a2;replace K0:=K0.ext a2;refine jF ?_ ?_
 ·intro hc24;refine kL func189 ?_;exact⟨_,rfl,fs,by rw[Hi hmay (by simpa using hc24)],⟨hB,hM,hF,hmd,hfd,hfm,hok⟩,by rw[J3 (by rw[Hi hmay (by simpa using hc24)];decide)],λ_ h _=>h,K0⟩
 intro hc24;refine kG ?_;refine jR<|AB.deleteMap underlying118 underlying9 rfl rfl rfl hM ?_;intro a8 a3 a5;replace a3:Aq a8 m (BG (l1++l2)):=(by have h_:=a3;rw[Mr hnd hfs hfn]at h_;exact h_);replace K0:=K0.trans a5 (λx hlt hx=>(λq_ h_ _=>Or.inr (Or.inl h_)) x hx hlt);replace hM:=a3;clear a3;replace hB:=hB.keep a5 hmd;refine jG ?_;refine jR<|AB.mapUpdate (v:=jp f.blk) underlying118 underlying9 rfl rfl rfl rfl hM ?_;intro a7 a4 a6;replace a4:Aq a7 m (BG (renFs (l1++l2) ⟨name2,f.blk,f.a,f.cap,f.bytes,f.synced⟩)):=((St (g:=⟨name2,f.blk,f.a,f.cap,f.bytes,f.synced⟩) (Ms hnd hfs))▸a4);replace K0:=K0.trans a6 (λx hlt hx=>(λq_ h_ _=>Or.inr (Or.inl h_)) x hx hlt);replace hM:=a4;clear a4;refine kL func189 ?_;replace hF:=(hF.kO a5 hfm).kO a6 hfm;have hF':A3 a7 (renFs (l1++l2) ⟨name2,f.blk,f.a,f.cap,f.bytes,f.synced⟩):=Ur (hF.openE hfs);have a9:¬AF (renFs (l1++l2) ⟨name2,f.blk,f.a,f.cap,f.bytes,f.synced⟩) d:=λh_=>hfd ((Ja hfs) _ h_);have aa:∀q_,AF (renFs (l1++l2) ⟨name2,f.blk,f.a,f.cap,f.bytes,f.synced⟩) q_->¬one m q_:=λq_ h_=>hfm q_ ((Ja hfs) q_ h_);have hpm:=YL hok hnd hfs hfn hmay (by simpa using hc24);replace hB:=hB.keep a6 hmd;exact⟨_,rfl,_,by rw[Rp hmay (by simpa using hc24) hfs hfn],⟨hB,hM,hF',hmd,a9,aa,hpm.2⟩,hpm.1,EJ (λq_ h_ hl_=>(λq_ h_ _=>Or.inr (Or.inr h_)) q_ ((Ja hfs) q_ h_) hl_),K0⟩
def iY (room:Int)(w:World):
  Calls prog 25 #[.int .i64 room] w (AU (λv w'=>(¬(0<=room/\room<=16777216)/\v= .tuple #[.pointer none,.int .i64 1]/\As w w')\/((0<=room/\room<=16777216)/\∃d m,v= .tuple #[jp d,.int .i64 0]/\Bv w' d m room []/\(∀q,Be d m [] q->w.heap.size<=q)/\As w w'))):=by
 refine kD (n:=14) func25 ?_;refine kE (Er rfl rfl rfl) ?_;refine jF ?_ ?_
 ·intro hc9;refine kM func25 ?_;exact⟨_,rfl,.inl ⟨by omega,rfl,Ae.refl _ w⟩⟩
 intro hc9;refine jG ?_;refine jR<|AB.makeMap (κ:=ByteArray) ?_;intro a2 aa a3 a0 a5;have a6:=Bg (Aac _) (BB a3);clear a3;have K0:=(a5:As w _);refine jG ?_;refine jV (AO (cells:=#[.map (some a2),.int .i64 room]) Zk) ?_;refine kQ ?_;intro a7 ab a1 a8 a4;have a9:=An a0.oL a1;have:=Aaa K0.size a1;clear a1;refine kM func25 ?_;replace a0:=a0.ext a4;replace K0:=K0.ext a4;exact⟨_,rfl,.inr ⟨by omega,a7,a2,rfl,⟨a8,a0,A3.nil _,a9,λ⟨_,h,_⟩=>absurd h Zs,λ_ ⟨_,h,_⟩=>absurd h Zs,Ce.empty Zo⟩,λq h=>h.elim (λe=>by rw[e];omega) (λh=>h.elim (λe=>a6 q e) (λ⟨_,h,_⟩=>absurd h Zs)),K0⟩⟩
end Go.Proofs.YtjkaicjmfgekjaaGreatDoor
namespace Go.Proofs.YtjkaicjmfgekjaaGreatDoor
open Go.Proofs.Tryz
attribute [local irreducible] RD RS AB RL RA RT CB Ai
structure JI where
 name:ByteArray
 keep:Int
 junk:SH
instance : Enc JI:=Enc.struct (λt=>[.string t.name,.int .i64 t.keep,.slice t.junk.a t.junk.len t.junk.cap]) 3 (λ_=>rfl) (λ_ v hv=>by simp at hv;rcases hv with rfl|rfl|rfl<;>rfl) Zd
structure FJ (w:World)(ss:List SH)(bss:List (List UInt8)):Prop where
 len:ss.length=bss.length
 all:∀(i:Nat) (s:SH) (bs:List UInt8),ss[i]? =some s->bss[i]? =some bs->s.len=bs.length/\Ax w s.a bs
def FJ.ext {w w':World}{ss:List SH}{bss:List (List UInt8)}(h:FJ w ss bss)(k:As w w'):FJ w' ss bss:=
 ⟨h.len,λi s bs h1 h2=>⟨(h.all i s bs h1 h2).1,(h.all i s bs h1 h2).2.ext k⟩⟩
def FJ.two {w:World}{s t:SH}{a b:List UInt8}(h1:s.len=a.length)(h2:Ax w s.a a)(h3:t.len=b.length)(h4:Ax w t.a b):FJ w [s,t] [a,b]:=
 ⟨rfl,λi x bs hx hb=>by
  match i with
  |0=>simp at hx hb;subst hx;subst hb;exact⟨h1,h2⟩
  |1=>simp at hx hb;subst hx;subst hb;exact⟨h3,h4⟩
  |i+2=>simp at hx⟩
structure FK (w:World)(ts:List JI)(pts:List Cz):Prop where
 len:ts.length=pts.length
 all:∀(i:Nat) (t:JI) (p:Cz),ts[i]? =some t->pts[i]? =some p->t.name=p.name/\t.keep=p.keep/\t.junk.len=p.junk.length/\Ax w t.junk.a p.junk
 size:∀p∈pts,p.name.size<=4294967295/\p.junk.length<=4294967295/\-9223372036854775808<=p.keep/\p.keep<=9223372036854775807
def FK.ext {w w':World}{ts:List JI}{pts:List Cz}(h:FK w ts pts)(k:As w w'):FK w' ts pts:=
 ⟨h.len,λi t p h1 h2=>have h3:=h.all i t p h1 h2;⟨h3.1,h3.2.1,h3.2.2.1,h3.2.2.2.ext k⟩,h.size⟩
structure Dp where
 name:ByteArray
 a:Option Addr
 cap:Nat
 bytes:List UInt8
def WF (x:Dp):ByteArray×Value:=(x.name,.slice x.a x.bytes.length x.cap)
def Fq (l:List Dp):List (ByteArray×Value):=l.map WF
def Dp.p (x:Dp):ByteArray×List UInt8:=(x.name,x.bytes)
def BQ (l:List Dp):Nat->Prop:=λq=>∃x∈l,own x.a q
structure Ck (w:World)(l:List Dp):Prop where
 all:∀x∈l,Af w 5 x.a x.cap x.bytes
 apart:l.Pairwise (λx y=>∀q,own x.a q->¬own y.a q)
section
variable {w w':World}{S:Nat->Prop}{x:Dp}{l l1 l2:List Dp}{pl:List PF}{pts:List Cz}
def Ck.oL (h:Ck w l):∀q,BQ l q->q<w.heap.size:=λq ⟨x,hx,hq⟩=>(h.all x hx).oL q hq
def Ck.kO (h:Ck w l)(k:Ae S w w')(hn:∀q,BQ l q->¬S q):Ck w' l:=⟨λx hx=>(h.all x hx).kO k (λq hq=>hn q ⟨x,hx,hq⟩),h.apart⟩
def Ck.ext (h:Ck w l)(k:As w w'):Ck w' l:=h.kO k λ_ _=>id
def Ck.nil (w:World):Ck w []:=⟨λ_ h=>absurd h Zs,List.Pairwise.nil⟩
def Ck.perm (h:Ck w l){l':List Dp}(p:l.Perm l'):Ck w l':=
 ⟨λf hf=>h.all f (p.mem_iff.2 hf),(p.pairwise_iff (λ{a b} hab q h1 h2=>hab q h2 h1)).1 h.apart⟩
def Ck.snoc (h:Ck w l)(hx:Af w 5 x.a x.cap x.bytes)(hn:∀q,BQ l q->¬own x.a q):Ck w (l++[x]):=by
 refine Ck.perm (l:=x::l) ⟨λy hy=> ?_,List.pairwise_cons.2 ⟨λy hy q h1 h2=>hn q ⟨y,hy,h2⟩ h1,h.apart⟩⟩ (List.perm_append_singleton _ _).symm;rcases List.mem_cons.1 hy with rfl|hy
 ·exact hx
 exact h.all y hy
def Ck.openE (h:Ck w l)(e:l=l1++x::l2):Af w 5 x.a x.cap x.bytes/\Ck w (l1++l2)/\∀q,BQ (l1++l2) q->¬own x.a q:=by
 have h':=h.perm (e▸List.perm_middle:l.Perm (x::(l1++l2)));obtain⟨h1,h2⟩:=List.pairwise_cons.1 h'.apart;exact⟨h'.all x Zs,⟨λy hy=>h'.all y (Aau _ hy),h2⟩,λq ⟨y,hy,hq⟩ hx=>h1 y hy q hx hq⟩
def left_case :∀q,BQ (l++[x]) q->own x.a q\/BQ l q:=λq ⟨y,hy,hq⟩=>by
 rcases List.mem_append.1 hy with hy|hy
 ·exact .inr ⟨y,hy,hq⟩
 simp only[Aah]at hy;subst hy;exact .inl hq
def Fr {n:ByteArray}{a:Option Addr}{c:Nat}{b:List UInt8}:∀q,BQ (l++[⟨n,a,c,b⟩]) q->own a q\/BQ l q:=left_case
def EK (e:l=l1++x::l2):∀q,own x.a q->BQ l q:=λq h=>⟨x,by subst e;simp,h⟩
def EL (e:l=l1++x::l2):∀q,BQ (l1++l2) q->BQ l q:=λq ⟨y,hy,hq⟩=>⟨y,by subst e;rcases List.mem_append.1 hy with h|h<;>simp[h],hq⟩
def P8 (l:List Dp):(Fq l).map (·.1)=l.map (·.name):=by simp[Fq,WF]
def Oq {n:ByteArray}(h:∀x∈l,x.name≠n):BU (Fq l) n=none:=Mm λp hp=>by obtain⟨f,hf,rfl⟩:=List.mem_map.1 hp;exact h f hf
def Ot (hn:(l.map (·.name)).Nodup)(hx:x∈l){n:ByteArray}(e:x.name=n):BU (Fq l) n=some (.slice x.a x.bytes.length x.cap):=by
 subst e;obtain⟨l1,l2,rfl⟩:=AbA hx;have e2:Fq (l1++x::l2)=Fq l1++(x.name,.slice x.a x.bytes.length x.cap)::Fq l2:=by simp[Fq,WF]
 rw[e2];exact Ol (by rw[<-e2,P8];exact hn)
def Su {n:ByteArray}(h:∀x∈l,x.name≠n)(a:Option Addr)(c:Nat)(b:List UInt8):C7 (Fq l) n (.slice a b.length c)=Fq (l++[⟨n,a,c,b⟩]):=by
 rw[C7,KK (λp hp=>by obtain⟨f,hf,rfl⟩:=List.mem_map.1 hp;exact h f hf)];simp[Fq,WF]
def Rq (pl:List PF)(t:Cz):ByteArray×List UInt8:=(t.name,match CD pl t.name with|some f=>Eu f t|none=>[])
def G2 (pl:List PF)(ts:List Cz):List (ByteArray×List UInt8):=ts.map (Rq pl)
def KQ (ts:List Cz)(i:Nat):List ByteArray:=((ts.take i).map (·.name)).reverse
def Hj {α:Type}{l:List α}{i:Nat}{x:α}(h:l[i]? =some x):l.drop i=x::l.drop (i+1):=by
 obtain⟨hi,rfl⟩:=List.getElem?_eq_some_iff.1 h;exact AbC hi
def Jb {α:Type}{l:List α}{i:Nat}{x:α}(h:l[i]? =some x):l.take (i+1)=l.take i++[x]:=by
 obtain⟨hi,rfl⟩:=List.getElem?_eq_some_iff.1 h;exact AaJ hi
def Sv {i:Nat}{t:Cz}(h:pts[i]? =some t):KQ pts (i+1)=t.name::KQ pts i:=by rw[KQ,Jb h,KQ];simp
structure Cr (pl:List PF)(pts:List Cz)(i:Nat)(ls:List Dp):Prop where
 err:CU pl pts []=CU pl (pts.drop i) (KQ pts i)
 left:ls.map Dp.p=G2 pl (pts.take i)
 nodup:(ls.map (·.name)).Nodup
def Cr.zero :Cr pl pts 0 []:=⟨rfl,rfl,by simp⟩
def Cr.names {i:Nat}(h:Cr pl pts i l):l.map (·.name)=(pts.take i).map (·.name):=by
 have:=congrArg (List.map (·.1)) h.left
 rw[G2,Aat,Aat]at this;exact this
def Cr.seen {i:Nat}(h:Cr pl pts i l){n:ByteArray}:(KQ pts i).any (λs=>decide (s=n))=true↔∃x∈l,x.name=n:=by
 rw[KQ,List.any_reverse,<-h.names,Abj];constructor
 ·rintro⟨y,hy,e⟩;obtain⟨x,hx,rfl⟩:=List.mem_map.1 hy;exact⟨x,hx,by simpa using e⟩
 rintro⟨x,hx,e⟩;exact⟨x.name,List.mem_map.2 ⟨x,hx,rfl⟩,by simpa using e⟩
def Cr.bad {i:Nat}{t:Cz}(h:Cr pl pts i l)(ht:pts[i]? =some t)(hm:CW t.name=false):CU pl pts []=6:=by
 rw[h.err,Hj ht,CU,if_neg (by simp[hm])]
def Cr.no {i:Nat}{t:Cz}(h:Cr pl pts i l)(ht:pts[i]? =some t)(hm:CW t.name=true)(hl:CD pl t.name=none):CU pl pts []=20:=by
 rw[h.err,Hj ht,CU,if_pos hm,hl]
def Cr.tear {i:Nat}{t:Cz}{f:PF}(h:Cr pl pts i l)(ht:pts[i]? =some t)(hm:CW t.name=true)(hl:CD pl t.name=some f)(hc:(∃x∈l,x.name=t.name)\/Fm f t=false):CU pl pts []=21:=by
 rw[h.err,Hj ht,CU,if_pos hm,hl];simp only;rw[if_pos];rcases hc with hc|hc
 ·exact .inl (h.seen.2 hc)
 exact .inr hc
def Cr.step {i:Nat}{t:Cz}{f:PF}(h:Cr pl pts i l)(ht:pts[i]? =some t)(hm:CW t.name=true)(hl:CD pl t.name=some f)(hno:∀x∈l,x.name≠t.name)(hk:Fm f t=true)(a:Option Addr)(c:Nat):
  Cr pl pts (i+1) (l++[⟨t.name,a,c,Eu f t⟩]):=by
 refine⟨?_,?_,?_⟩
 ·rw[h.err,Hj ht,CU,if_pos hm,hl];simp only;rw[if_neg,Sv ht];rintro(hc|hc)
  ·obtain⟨x,hx,e⟩:=h.seen.1 hc;exact hno x hx e
  rw[hk]at hc;cases hc
 ·rw[Jb ht,G2,Aam,Aam,h.left,G2];simp only[Aaf,Aav,Rq,hl,Dp.p]
 rw[Aam,Aa1];refine⟨h.nodup,by simp,?_⟩;intro y hy z hz;obtain⟨x,hx,rfl⟩:=List.mem_map.1 hy;simp only[Aaf,Aav,Aah]at hz;subst hz;exact hno x hx
def Cr.step' {i:Nat}{t:Cz}{f:PF}(h:Cr pl pts i l)(ht:pts[i]? =some t){n:ByteArray}(e:n=t.name)(hm:CW n=true)(hl:CD pl n=some f)(hno:∀x∈l,x.name≠n)(hk:Fm f t=true)(a:Option Addr)(c:Nat):
  Cr pl pts (i+1) (l++[⟨n,a,c,Eu f t⟩]):=by subst e;exact h.step ht hm hl hno hk a c
def WG {f:PF}{t:Cz}(h:t.keep<0\/(f.bytes.length:Int)-f.synced<t.keep\/(f.bytes.length:Int)-f.synced-t.keep<t.junk.length):Fm f t=false:=by
 rw[AbY];intro e;simp only[Fm,Aao,decide_eq_true_eq]at e;omega
def WH {f:PF}{t:Cz}(h:0<=t.keep/\t.keep<=(f.bytes.length:Int)-f.synced/\(t.junk.length:Int)<=(f.bytes.length:Int)-f.synced-t.keep):Fm f t=true:=by
 simp only[Fm,Aao,decide_eq_true_eq];omega
end
def Ou {bss:List (List UInt8)}{i:Nat}{bs:List UInt8}(h:bss[i]? =some bs):(bss.take (i+1)).flatten=(bss.take i).flatten++bs:=by rw[Jb h];simp
def Nr (bss:List (List UInt8))(i:Nat):(bss.take i).flatten.length<=bss.flatten.length:=by
 have e:bss.flatten=(bss.take i).flatten++(bss.drop i).flatten:=by rw[<-List.flatten_append,AbK]
 rw[e,Aab];omega
attribute [local irreducible] X
def Sw (q:Nat)(w:World)(hq:q<=4294967295):
  Calls prog 174 #[.slice none 0 0,.int .i64 ((q:Nat):Int)] w (AU (λv w'=>∃a' c',v= .slice a' 0 c'/\Af w' 5 a' c' ([]:List UInt8)/\(∀b,own a' b->w.heap.size<=b)/\As w w')):=by
 refine kD (n:=27) func174 ?_;refine jF ?_ ?_
 ·intro hc6;exfalso;omega
 intro hc6;refine jG ?_;refine jV (AA (c:=0) (FH underlying98 rfl) rfl) ?_;refine FU ?_;refine jV (AA (c:=0) (CM underlying98 rfl) rfl) ?_;refine jV (AA (c:=0) (B8 rfl rfl Zd Zd) Zd) ?_;refine kE (AA (c:=((q:Nat):Int)) (B8 rfl rfl Zo Zo) Zo) ?_;refine jF ?_ ?_
 ·intro hc16;refine jG ?_;refine jV (AA (c:=0) (FH underlying98 rfl) rfl) ?_;refine kE (B7 (j:=0) underlying98 ty5 rfl rfl Zo) ?_;refine jR<|AB.appendZeros (q:=q) UInt8 underlying98 underlying3 ty5 rfl rfl rfl Zo Zo Zd ?_;intro a1 a2 a6 a0 a7 a3 a4;have a5:=Bg (Aac _) (Du a0);clear a0;have K0:=(a4:As w _);refine FU ?_;refine jV (AA (c:=0) (CM underlying98 rfl) rfl) ?_;refine kE (B7 (j:=0) underlying98 ty5 rfl rfl Zo) ?_;refine jJ func174 ?_;exact⟨_,rfl,some ⟨a1,0,none⟩,a2,rfl,a3,a5,K0⟩
 intro hc16;refine kL func174 ?_;exact⟨_,rfl,none,0,rfl,Af.nil _ _,λb h=>absurd h (Ad b),Ae.refl _ w⟩
def Ov (a:Option Addr)(ss:List SH)(c:Nat)(bss:List (List UInt8))(w:World)(hs:Ax w a ss)(hp:FJ w ss bss)(hl:bss.flatten.length<=4294967295)(hl2:bss.length<=4294967295):
  Calls prog 110 #[.slice a ss.length c] w (AU (λv w'=>∃a' c',v= .slice a' bss.flatten.length c'/\Af w' 5 a' c' bss.flatten/\(∀b,own a' b->w.heap.size<=b)/\As w w')):=by
 have hlen:=hp.len;refine kD (n:=36) func110 ?_;refine Ai.loop (ι:=Nat) (λi ρ' w'=>Holds ρ' [(0,.slice a ss.length c),(3,.int .i64 ((((bss.take i).flatten).length:Nat):Int)),(9,.slice a ss.length c),(10,.int .i64 ((ss.length:Nat):Int)),(11,.int .i64 ((i:Nat):Int))]/\As w w'/\(i<=bss.length)) (λi=>bss.length-i) 0 ?_ ?_
 ·refine⟨⟨rfl,rfl,rfl,rfl,rfl,trivial⟩,(Ae.refl _ w),?_⟩
  ·omega
 rintro i ai aj ⟨a4,K0,hi⟩ ih1;obtain⟨ρ₀,rfl⟩:=a4.ex;clear a4;refine kK ?_ ?_
 ·intro hc12;refine Et ?_;obtain⟨ak,al,s,hx,a9,a0⟩:=hs.eo i;have hc_7_lt:=a0.lt;refine jV (AY underlying130 ty98 rfl rfl a9 Zl) ?_;obtain⟨bs,hbs⟩:∃bs,bss[i]? =some bs:=⟨_,List.getElem?_eq_getElem Zo⟩;obtain⟨hsl1,hsl2⟩:=(hp.ext K0).all i s bs hx hbs;have hfl:=Ou (i:=i) hbs;have hfl2:(bss.take (i+1)).flatten.length=(bss.take i).flatten.length+bs.length:=by rw[hfl,Aab]
  have hft:=Nr bss (i+1);replace a0:=a0.ext K0;refine jG ?_;refine jV (AA (c:=(((bss.take (i+1)).flatten).length:Int)) (AA (c:=(((((bss.take i).flatten).length)+s.len:Nat):Int)) (Av rfl rfl Zo Zo) rfl) Zo) ?_;refine kK ?_ ?_
  ·intro hc20;exfalso;omega
  intro hc20;refine jG ?_;refine kC i ?_;refine ih1 (i+1) _ _ ?_ Zo;refine⟨⟨rfl,rfl,rfl,rfl,rfl,trivial⟩,K0,?_⟩;omega
 intro hc12;refine jG ?_;have hfull:(bss.take i).flatten=bss.flatten:=by rw[AaB Zo]
 rw[hfull];refine jG ?_;refine kS (Sw bss.flatten.length _ Zo) ?_;rintro _ am ⟨an,ap,rfl,a5,a6,aa⟩;have ab:=Bg K0.size a6;clear a6;refine jG ?_;replace K0:=K0.ext aa;refine Ai.loop (ι:=Nat) (λi ρ' w'=>∃ao:Option Addr,∃co:Nat,Holds ρ' [(6,.slice ao (((bss.take i).flatten).length) co),(25,.slice a ss.length c),(26,.int .i64 ((ss.length:Nat):Int)),(27,.int .i64 ((i:Nat):Int))]/\As w w'/\(Af w' 5 ao co ((bss.take i).flatten))/\(∀q_,own ao q_->w.heap.size<=q_)/\(i<=bss.length)) (λi=>bss.length-i) 0 ?_ ?_
 ·refine⟨_,_,⟨rfl,rfl,rfl,rfl,trivial⟩,K0,a5,ab,?_⟩
  ·omega
 clear a5;clear K0;rintro i aq ar ⟨ao,co,a7,K0,a1,a2,hi⟩ ih2;obtain⟨ρ₀,rfl⟩:=a7.ex;clear a7;refine kK ?_ ?_
 ·intro hc28;refine Et ?_;obtain⟨au,av,s,hx,ac,a3⟩:=hs.eo i;have hc_25_lt:=a3.lt;refine jV (AY underlying130 ty98 rfl rfl ac Zl) ?_;replace a3:=a3.ext K0;refine jG ?_;obtain⟨bs,hbs⟩:∃bs,bss[i]? =some bs:=⟨_,List.getElem?_eq_getElem Zo⟩;obtain⟨hsl1,hsl2⟩:=(hp.ext K0).all i s bs hx hbs;have hfl:=Ou (i:=i) hbs;have hfl2:(bss.take (i+1)).flatten.length=(bss.take i).flatten.length+bs.length:=by rw[hfl,Aab]
  have hft:=Nr bss (i+1);rw[hsl1];refine jG ?_;refine jR<|AB.append (xs:=(bss.take i).flatten) (ys:=bs) underlying98 ty5 rfl rfl rfl a1 hsl2 (by have:=Nr bss i;rw[hfl,Aab]at hft;omega) Zd ?_;intro ad aw ax ae af a8 ag;have ah:∀q_,own ad q_->w.heap.size<=q_:=a8.ge a2 K0.size;clear a8;clear ag;refine jG ?_;refine kC i ?_;refine ih2 (i+1) _ _ ?_ Zo;rw[hfl];replace K0:=K0.new af a2;refine⟨_,_,⟨rfl,rfl,rfl,rfl,trivial⟩,K0,ae,ah,?_⟩
  omega
 intro hc28;refine jG ?_;refine Ai.ret1 (v:= .slice ao (((bss.take i).flatten).length) co) func110 rfl rfl ?_;have hil:i=bss.length:=by omega
 subst hil;rw[Aap]at a1⊢;exact⟨_,rfl,ao,co,rfl,a1,a2,K0⟩
def WI (a:Option Addr)(ss:List SH)(c:Nat)(bss:List (List UInt8))(r:List UInt8)(w:World)(hs:Ax w a ss)(hp:FJ w ss bss)(hl2:bss.length<=4294967295)(he:bss.flatten=r)(hl:r.length<=4294967295):
  Calls prog 110 #[.slice a ss.length c] w (AU λv w'=>∃a' c',v= .slice a' r.length c'/\Af w' 5 a' c' r/\(∀b,own a' b->w.heap.size<=b)/\As w w'):=by
 subst he;exact Ov a ss c bss w hs hp hl hl2
def gP (d m:Nat)(room:Int)(fs:List Am)(a:Option Addr)(ts:List JI)(c:Nat)(pts:List Cz)(w:World)(hD:Bv w d m room fs)(hs:Ax w a ts)(ht:FK w ts pts)(hl:ts.length<=4294967295):
  Calls prog 55 #[jp d,.slice a ts.length c] w (AU (λv w'=>As w w'/\((CU (fs.map Am.p) pts []≠0/\v= .tuple #[.map none,.int .i64 (CU (fs.map Am.p) pts [])])\/(CU (fs.map Am.p) pts []=0/\∃lm ls,v= .tuple #[.map (some lm),.int .i64 0]/\Aq w' lm (Fq ls)/\Ck w' ls/\ls.map Dp.p=G2 (fs.map Am.p) pts/\(ls.map (·.name)).Nodup/\(∀q,BQ ls q->¬one lm q)/\w.heap.size<=lm/\(∀q,BQ ls q->w.heap.size<=q))))):=by
 obtain⟨hB,hM,hF,hmd,hfd,hfm,hok⟩:=hD;have hnd:=Bv.names hok;have hlens:=Ce.lens hok;have hroom:=hok.room;have hused:=hok.used;have hcnt:=hok.len;rw[Aad]at hcnt;refine kD (n:=91) func55 ?_;refine jR<|AB.makeMap (κ:=ByteArray) ?_;intro a4 ay ah ap ai;have az:=Ay (BB ah) hB.lt;have aA:=Ag (BB ah) hM.oL;have aB:=Ag (BB ah) hF.oL;have aC:=Bg (Aac _) (BB ah);clear ah;have K0:=(ai:As w _);have hL:=Ck.nil ay;refine jG ?_;replace hB:=hB.ext ai;replace hM:=hM.ext ai;replace hF:=hF.ext ai;refine Ai.loop (ι:=Nat) (λi ρ' w'=>∃ls:List Dp,Holds ρ' [(0,jp d),(6,.map (some a4)),(15,.slice a ts.length c),(16,.int .i64 ((ts.length:Nat):Int)),(17,.int .i64 ((i:Nat):Int))]/\As w w'/\(AC w' d [.map (some m),.int .i64 room] 120)/\(Aq w' m (BG fs))/\(A3 w' fs)/\(Aq w' a4 (Fq ls))/\(Ck w' ls)/\(¬one a4 d)/\(∀q_,one a4 q_->¬one m q_)/\(∀q_,one a4 q_->¬AF fs q_)/\(∀q_,one a4 q_->¬BQ ls q_)/\(∀q_,one a4 q_->w.heap.size<=q_)/\(¬BQ ls d)/\(∀q_,BQ ls q_->¬one m q_)/\(∀q_,BQ ls q_->¬AF fs q_)/\(∀q_,BQ ls q_->w.heap.size<=q_)/\(i<=ts.length)/\(Cr (fs.map Am.p) pts i ls)) (λi=>ts.length-i) 0 ?_ ?_
 ·refine⟨[],⟨rfl,rfl,rfl,rfl,rfl,trivial⟩,K0,hB,hM,hF,ap,hL,az,aA,aB,(λq_ h1 h2=>(λq_ ⟨_,h_,_⟩ _=>absurd h_ Zs) q_ h2 h1),aC,(λ⟨_,h_,_⟩=>absurd h_ Zs),(λq_ ⟨_,h_,_⟩ _=>absurd h_ Zs),(λq_ ⟨_,h_,_⟩ _=>absurd h_ Zs),(λq_ ⟨_,h_,_⟩=>absurd h_ Zs),?_,?_⟩
  ·omega
  exact Cr.zero
 clear hB hM hF ap hL;clear K0;rintro i aX aY ⟨ls,aq,K0,hB,hM,hF,a0,a2,ar,au,al,am,an,aD,aE,aF,av,hi,hti⟩ ih1;obtain⟨ρ₀,rfl⟩:=aq.ex;clear aq;refine kK ?_ ?_
 ·intro hc18;obtain⟨aZ,b0,t,hx,b1,aj⟩:=hs.eo i;have hc_27_lt:=aj.lt;replace aj:=aj.ext K0;refine kP ?_;intro b2 b3 ac a3 af;have b4:=Ak hB.lt ac;have b5:=Ak aj.lt ac;have aG:=An hM.oL ac;have aH:=An hF.oL ac;have aI:=An a0.oL ac;have aJ:=An a2.oL ac;have:=Aaa K0.size ac;clear ac;refine jR<|jS a3 ?_;intro b6 a3 ag;obtain⟨p,hp⟩:∃p,pts[i]? =some p:=⟨_,List.getElem?_eq_getElem (by rw[<-ht.len];omega)⟩;obtain⟨htn,htk,htl,htj⟩:=ht.all i t p hx hp;obtain⟨hz1,hz2,hz3,hz4⟩:=ht.size p (Aan hp);have hns:t.name.size<=4294967295:=by rw[htn];exact hz1
  have hlnd:=hti.nodup;refine jG ?_;replace hB:=(hB.ext af).kp ag;replace hM:=(hM.ext af).kO ag (Aa aG);replace hF:=(hF.ext af).kO ag (Aa aH);refine kS (KO d m room fs t.name _ (⟨hB,hM,hF,hmd,hfd,hfm,hok⟩:Bv _ d m room fs) Zo) ?_;replace a0:=(a0.ext af).kO ag (Aa aI);replace a2:=(a2.ext af).kO ag (Aa aJ);replace K0:=(K0.ext af).n1 ag;rintro _ b7 ⟨a1,(⟨hmay,rfl⟩|⟨hmay,hno,rfl⟩|⟨hmay,l1,f,l2,hfs,hfn,rfl⟩)⟩
  ·replace hB:=hB.ext a1;refine kI ?_;refine jK func55 ?_;have he:=hti.bad hp (by rw[<-htn];exact hmay);replace hM:=hM.ext a1;replace hF:=hF.ext a1;replace a0:=a0.ext a1;replace a2:=a2.ext a1;replace a3:=a3.ext a1;replace K0:=K0.ext a1;exact⟨_,rfl,K0,.inl ⟨by rw[he];decide,by rw[he]⟩⟩
  ·replace hB:=hB.ext a1;refine kI ?_;refine jK func55 ?_;have he:=hti.no hp (by rw[<-htn];exact hmay) (by rw[<-htn];exact GZ hno);replace hM:=hM.ext a1;replace hF:=hF.ext a1;replace a0:=a0.ext a1;replace a2:=a2.ext a1;replace a3:=a3.ext a1;replace K0:=K0.ext a1;exact⟨_,rfl,K0,.inl ⟨by rw[he];decide,by rw[he]⟩⟩
  replace hB:=hB.ext a1;have hfl:=hlens f (CZ hfs);refine jG ?_;refine Ai.condF rfl ?_;refine Et ?_;replace hM:=hM.ext a1;replace hF:=hF.ext a1;replace a0:=a0.ext a1;replace a2:=a2.ext a1;replace a3:=a3.ext a1;replace K0:=K0.ext a1;by_cases h8:∃x∈ls,x.name=t.name
  ·obtain⟨x,hxl,hxn⟩:=h8;refine jG ?_;refine kE (Di (v':= .tuple #[.slice x.a x.bytes.length x.cap,.bool true]) (BE underlying115 underlying9 rfl ty98 rfl rfl a0) (by rw[Ot hlnd hxl hxn];rfl)) ?_;have hfx:=hF.all f (CZ hfs);have hb:=hfx.blk;have hsl:=hfx.own.sl;have hcp:=hfx.own.le_cap;have hsy:=(hlens f (CZ hfs)).1;refine Ai.drawR ?_;intro b8 a7;replace hb:=hb.ext a7;refine jG ?_;refine jD (B8 rfl rfl Zo Zo) ?_;refine jG ?_;refine kE (Er (b:=true) (e:=false) rfl rfl rfl) ?_;refine kE (Er (b:=true) (e:=false) rfl rfl rfl) ?_;refine kE (Er (b:=true) (e:=false) rfl rfl rfl) ?_;refine C8 ?_;refine kM func55 ?_;have he:=hti.tear hp (by rw[<-htn];exact hmay) (by rw[<-htn];exact Fp hnd hfs hfn) (.inl ⟨x,hxl,by rw[<-htn];exact hxn⟩);replace hB:=hB.ext a7;replace hM:=hM.ext a7;replace hF:=hF.ext a7;replace a0:=a0.ext a7;replace a2:=a2.ext a7;replace a3:=a3.ext a7;replace hsl:=hsl.ext a7;replace K0:=K0.ext a7;exact⟨_,rfl,K0,.inl ⟨by rw[he];decide,by rw[he]⟩⟩
  have hxno:∀x∈ls,x.name≠t.name:=λx hx e=>h8 ⟨x,hx,e⟩
  refine jG ?_;refine kE (Di (v':= .tuple #[.slice none 0 0,.bool false]) (BE underlying115 underlying9 rfl ty98 rfl rfl a0) (by rw[Oq hxno];rfl)) ?_;have hfx:=hF.all f (CZ hfs);have hb:=hfx.blk;have hsl:=hfx.own.sl;have hcp:=hfx.own.le_cap;have hsy:=(hlens f (CZ hfs)).1;have aK:¬one a4 f.blk:=λh_=>al _ h_ (BC hfs);refine Ai.drawR ?_;intro b9 a8;replace hb:=hb.ext a8;refine jG ?_;refine jD (B8 rfl rfl Zo Zo) ?_;replace a3:=a3.ext a8;refine jG ?_;refine kE (Ed rfl rfl rfl) ?_;refine kE (Er rfl rfl rfl) ?_;refine jW ?_ (hx:=by exact λhg=>(B8 (B4 hg) (B4 hg) (by simp only[br]at hg;omega) (by simp only[br]at hg;omega)));refine jG ?_;refine kE (Er rfl rfl rfl) ?_;replace hB:=hB.ext a8;replace hM:=hM.ext a8;replace hF:=hF.ext a8;replace a0:=a0.ext a8;replace a2:=a2.ext a8;replace hsl:=hsl.ext a8;replace K0:=K0.ext a8;refine jF ?_ ?_
  ·intro hc69;refine kM func55 ?_;have he:=hti.tear hp (by rw[<-htn];exact hmay) (by rw[<-htn];exact Fp hnd hfs hfn) (.inr (WG (by show _\/((f.bytes.length:Nat):Int)-(f.synced:Int)<_\/((f.bytes.length:Nat):Int)-(f.synced:Int)-_<_;rw[<-htk,<-htl];omega)));exact⟨_,rfl,K0,.inl ⟨by rw[he];decide,by rw[he]⟩⟩
  intro hc69;refine jG ?_;refine Ai.drawS [19] [0,1,1002,3,4,5,1006,7,8,9,1010,11,1012,13,14,15,1016,2017,2018,2019] ?_;intro ba a9;replace a3:=a3.ext a9;replace hb:=hb.ext a9;refine kF (jb a3 (jb hb Jn)) ?_;refine jP ?_ (hx:=by exact λ_=>(AA (c:=((f.synced+p.keep.toNat:Nat):Int)) (Av rfl rfl Zo Zo) Zo));refine jP ?_ (hx:=by exact λ_=>(HH (m':=(f.bytes.take (f.synced+p.keep.toNat)).length) (B7 underlying98 ty5 rfl rfl Zo) Zt));refine jG ?_;refine jU rfl<|AB.buildSlice ([⟨f.a,(f.bytes.take (f.synced+p.keep.toNat)).length,f.cap⟩,⟨t.junk.a,t.junk.len,t.junk.cap⟩]:List SH) underlying130 ty98 rfl rfl Ze ?_;intro bb bc aL aM aa;clear aL;replace a3:=a3.ext aa;replace hb:=hb.ext aa;refine jG ?_;replace hsl:=(hsl.ext a9).ext aa;replace K0:=(K0.ext a9).ext aa;refine jU rfl<|jC (WI _ _ _ [f.bytes.take (f.synced+p.keep.toNat),p.junk] (Eu f.p p) _ aM.sl (FJ.two (by rw[List.length_take]) (hsl.take _) htl (htj.ext K0)) Zs (by simp[Eu,Am.p]) (by simp only[Eu,Am.p,Aab,List.length_take];omega)) ?_;rintro _ be ⟨a5,a6,rfl,ao,ad,ab⟩;replace hB:=(hB.ext a9).ext aa;have aN:=Ay ad hB.lt;replace hM:=(hM.ext a9).ext aa;have aO:=Ag ad hM.oL;replace hF:=(hF.ext a9).ext aa;have aP:=Ag ad hF.oL;replace a0:=(a0.ext a9).ext aa;have aw:=Ag ad a0.oL;replace a2:=(a2.ext a9).ext aa;have aQ:=Ag ad a2.oL;have aR:=Bg K0.size ad;clear ad;replace a3:=a3.ext ab;replace hb:=hb.ext ab;refine jG ?_;replace a0:=a0.ext ab;refine jU rfl<|AB.mapUpdate (v:= .slice a5 ((Eu f.p p).length) a6) underlying115 underlying9 rfl rfl rfl rfl a0 ?_;intro ax ak ae;replace ak:Aq ax a4 (Fq (ls++[⟨t.name,a5,a6,Eu f.p p⟩])):=(Su hxno a5 a6 (Eu f.p p)▸ak);replace a0:=ak;clear ak;replace a2:=(a2.ext ab).kO ae (Zf am);replace ao:=ao.kO ae aw;have hL':Ck ax (ls++[⟨t.name,a5,a6,Eu f.p p⟩]):=Ck.snoc (x:=⟨t.name,a5,a6,Eu f.p p⟩) a2 ao (λq_ h1 h2=>(Zf aQ) q_ h1 h2);have aS:¬BQ (ls++[⟨t.name,a5,a6,Eu f.p p⟩]) d:=λx_=>(Fr _ x_).elim aN (λy_=>aD y_);have aT:∀q_,BQ (ls++[⟨t.name,a5,a6,Eu f.p p⟩]) q_->¬one m q_:=λq_ x_ z_=>(Fr _ x_).elim (λy_=>aO q_ y_ z_) (λy_=>(λy_=>aE q_ y_ z_) y_);have aU:∀q_,BQ (ls++[⟨t.name,a5,a6,Eu f.p p⟩]) q_->¬AF fs q_:=λq_ x_ z_=>(Fr _ x_).elim (λy_=>aP q_ y_ z_) (λy_=>(λy_=>aF q_ y_ z_) y_);have aV:∀q_,BQ (ls++[⟨t.name,a5,a6,Eu f.p p⟩]) q_->¬one a4 q_:=λq_ x_ z_=>(Fr _ x_).elim (λy_=>aw q_ y_ z_) (λy_=>(λy_=>(Zf am) q_ y_ z_) y_);have aW:∀q_,BQ (ls++[⟨t.name,a5,a6,Eu f.p p⟩]) q_->w.heap.size<=q_:=λq_ x_=>(Fr _ x_).elim (λy_=>aR q_ y_) (λy_=>(λy_=>av q_ y_) y_);have hti':=hti.step' hp htn hmay (Fp hnd hfs hfn) hxno (WH (by show _/\_<=((f.bytes.length:Nat):Int)-(f.synced:Int)/\_<=((f.bytes.length:Nat):Int)-(f.synced:Int)-_;rw[<-htk,<-htl];omega)) a5 a6;refine jG ?_;refine kC i ?_;refine ih1 (i+1) _ _ ?_ Zo;replace hB:=(hB.ext ab).keep ae ar;replace hM:=(hM.ext ab).kO ae (Zf au);replace hF:=(hF.ext ab).kO ae (Zf al);replace hsl:=hsl.ext ab;replace K0:=(K0.ext ab).new ae an;replace hb:=hb.keep ae aK;refine⟨_,⟨rfl,rfl,rfl,rfl,rfl,trivial⟩,K0,hB,hM,hF,a0,hL',ar,au,al,(Zf aV),an,aS,aT,aU,aW,?_,?_⟩
  ·omega
  exact hti'
 intro hc18;refine kM func55 ?_;have hil:i=pts.length:=by rw[<-ht.len];omega
 have he:CU (fs.map Am.p) pts []=0:=by rw[hti.err,hil,List.drop_length,CU]
 have hle:=hti.left;rw[hil,Aap]at hle;exact⟨_,rfl,K0,.inr ⟨he,a4,ls,rfl,a0,a2,hle,hti.nodup,(Zf am),(an a4 rfl),av⟩⟩
end Go.Proofs.YtjkaicjmfgekjaaGreatDoor
namespace Go.Proofs.YtjkaicjmfgekjaaGreatDoor
open Go.Proofs.Tryz
attribute [local irreducible] RD RS AB RL RA RT CB Ai
section
variable {w w':World}{f x:Am}{fs gs rs l1 l2:List Am}{d m:Nat}{room:Int}{n:ByteArray}{pl:List PF}{pts:List Cz}{ls ks:List Dp}
def TS (pts:List Cz)(rs:List Am)(x:Am):PF:=if rs.any (λr=>decide (r.name=x.name))then x.p else Dv pts x.p
def Ns (h:x.name∈rs.map (·.name)):TS pts rs x=x.p:=by
 obtain⟨y,hy,e⟩:=List.mem_map.1 h;rw[TS,if_pos (List.any_eq_true.2 ⟨y,hy,by simpa using e⟩)]
def Nt (h:¬x.name∈rs.map (·.name)):TS pts rs x=Dv pts x.p:=by
 rw[TS,if_neg];intro hc;obtain⟨y,hy,e⟩:=List.any_eq_true.1 hc;exact h (List.mem_map.2 ⟨y,hy,by simpa using e⟩)
def G3 (ts:List Cz)(f:PF):(Dv ts f).name=f.name:=by unfold Dv;split<;>rfl
def Us (x:Am):(TS pts rs x).name=x.name:=by
 unfold TS;split
 ·rfl
 exact G3 _ _
def crM_zero :fs.map Am.p=fs.map (TS pts fs):=AaE λx hx=>by rw[Ns (List.mem_map.2 ⟨x,hx,rfl⟩)]
def crM_end :fs.map (TS pts [])=(fs.map Am.p).map (Dv pts):=by rw[Aat];exact AaE λx _=>by simp[TS]
def Ee {j : Nat} (hn : (rs.map (·.name)).Nodup) (hf : rs[j]? = some f) (nm : ByteArray) : nm ∈ (rs.eraseIdx j).map (·.name) ↔ nm ∈ rs.map (·.name) /\ nm ≠ f.name := by
  induction rs generalizing j with
  | nil => simp at hf
  | cons y l ih =>
    simp only [Aaf, AaN] at hn;cases j with
    | zero =>
      simp only [Acb, Option.some.injEq] at hf; subst hf;rw [Acm];simp only [Aaf, Aai];exact ⟨λh => ⟨.inr h, λe => hn.1 (e ▸ h)⟩, fun ⟨h, hne⟩ => h.elim (λe => absurd e hne) id⟩
    | succ j =>
      simp only [Acn] at hf;rw [Acc];simp only [Aaf, Aai, ih hn.2 hf];have hy : y.name ≠ f.name := λe => hn.1 (e ▸ List.mem_map.2 ⟨f, Aan hf, rfl⟩)
      constructor
      · rintro (e | ⟨h1, h2⟩)
        · subst e; exact ⟨.inl rfl, hy⟩
        exact ⟨.inr h1, h2⟩
      rintro ⟨h1 | h1, h2⟩
      · exact .inl h1
      exact .inr ⟨h1, h2⟩
def JJ {j:Nat}(hn:(rs.map (·.name)).Nodup):((rs.eraseIdx j).map (·.name)).Nodup:=hn.sublist ((List.eraseIdx_sublist rs j).map _)
def Sx {j:Nat}(hn:(rs.map (·.name)).Nodup)(hf:rs[j]? =some f){y:Am}(hy:y∈rs.eraseIdx j):y∈rs/\y.name≠f.name:=
 ⟨AbW hy,((Ee hn hf y.name).1 (List.mem_map.2 ⟨y,hy,rfl⟩)).2⟩
def Sy (hn:(fs.map (·.name)).Nodup)(hx:x∈fs)(hf:f∈fs)(e:x.name=f.name):x=f:=by
 obtain⟨i,hi,rfl⟩:=AaI hx;obtain⟨j,hj,rfl⟩:=AaI hf;have:=(List.getElem_inj (h₀:=by simpa using hi) (h₁:=by simpa using hj) hn).1 (show(fs.map (·.name))[i]'(by simpa using hi)=(fs.map (·.name))[j]'(by simpa using hj)by simpa using e)
 subst this;rfl
def Ow {j:Nat}(hfn:(fs.map (·.name)).Nodup)(hgn:(gs.map (·.name)).Nodup)(hn:(rs.map (·.name)).Nodup)(hsub:∀f∈rs,f∈fs)(hf:rs[j]? =some f)(hg:gs=l1++f::l2)(h:gs.map Am.p=fs.map (TS pts rs))(f':Am)(hp:f'.p=Dv pts f.p):
  (l1++f'::l2).map Am.p=fs.map (TS pts (rs.eraseIdx j)):=by
 have h1:=P6 (u:=λ_=>f'.p) hgn hg rfl;have h2:(l1++f'::l2).map Am.p=DW (gs.map Am.p) f.name (λ_=>f'.p):=by rw[h1,Aam,Aaf]
 rw[h2,h,DW,Aat];have hfm:=Aan hf;refine AaE λx hx=> ?_;simp only[Function.comp,Us];by_cases c:x.name=f.name
 ·have:=Sy hfn hx (hsub f hfm) c;subst this
  rw[if_pos rfl,Nt (λh=>((Ee hn hf _).1 h).2 rfl),hp]
 rw[if_neg c];by_cases c2:x.name∈rs.map (·.name)
 ·rw[Ns c2,Ns ((Ee hn hf _).2 ⟨c2,c⟩)]
 rw[Nt c2,Nt (λh=>c2 ((Ee hn hf _).1 h).1)]
def KR (hle:ls.map Dp.p=G2 pl pts):ls.map (·.name)=pts.map (·.name):=by
 have:=congrArg (List.map (·.1)) hle
 rw[G2,Aat,Aat]at this;exact this
def Ut (hle:ls.map Dp.p=G2 pl pts)(h:∀x∈ls,x.name≠f.name):(⟨f.name,f.bytes.take f.synced,(f.bytes.take f.synced).length⟩:PF)=Dv pts f.p:=by
 have hno:pts.find? (λt=>decide (t.name=f.p.name))=none:=by
  rw[Abf];intro t ht;have:t.name∈ls.map (·.name):=by rw[KR hle];exact List.mem_map.2 ⟨t,ht,rfl⟩
  obtain⟨x,hx,e⟩:=List.mem_map.1 this;have:=h x hx
  rw[e]at this;show¬(decide (t.name=f.name)=true)
  simpa using this
 rw[Dv,hno];rfl
def Uu {x:Dp}(hfn:(fs.map (·.name)).Nodup)(hln:(ls.map (·.name)).Nodup)(hle:ls.map Dp.p=G2 (fs.map Am.p) pts)(hf:f∈fs)(hx:x∈ls)(e:x.name=f.name):(⟨f.name,x.bytes,x.bytes.length⟩:PF)=Dv pts f.p:=by
 obtain⟨i,hi,rfl⟩:=AaI hx;have hl:ls.length=pts.length:=by have:=congrArg List.length hle;simpa[G2]using this
 have h1:Dp.p ls[i]=Rq (fs.map Am.p) (pts[i]'(by omega)):=by
  have:=congrArg (λl=>l[i]?) hle
  simp only[G2,Aaz,List.getElem?_eq_getElem hi,List.getElem?_eq_getElem (show i<pts.length by omega),AaL,Option.some.injEq]at this;exact this
 simp only[Dp.p,Rq,Prod.mk.injEq]at h1;obtain⟨h2,h3⟩:=h1;have hnp:(pts.map (·.name)).Nodup:=by rw[<-KR hle];exact hln
 have hfind:pts.find? (λt=>decide (t.name=f.p.name))=some (pts[i]'(by omega)):=by
  have h4:(pts[i]'(by omega)).name=f.p.name:=by rw[<-h2,e];rfl
  rw[List.find?_eq_some_iff_getElem];refine⟨by simpa using h4,i,by omega,rfl,λj hj=> ?_⟩;simp only[AaH,decide_eq_false_iff_not];intro h5;have:=(List.getElem_inj (h₀:=by simp;omega) (h₁:=by simp;omega) hnp).1 (show(pts.map (·.name))[j]'(by simp;omega)=(pts.map (·.name))[i]'(by simp;omega)by simp only[Ace];rw[h5,h4])
  omega
 rw[Dv,hfind];have h6:CD (fs.map Am.p) (pts[i]'(by omega)).name=some f.p:=by rw[<-h2,e];obtain⟨k1,k2,hk⟩:=AbA hf;exact Fp hfn hk rfl
 rw[h6]at h3;simp only at h3⊢;rw[<-h3];rfl
def tornE_ok : ∀ {ts : List Cz} {s : List ByteArray}, CU pl ts s = 0 -> ∀ t ∈ ts, ∃ f, CD pl t.name = some f /\ Fm f t = true
  | [], _, _, t, ht => by simp at ht
  | t0 :: l, s, h, t, ht => by
    rw [CU] at h;split at h
    · split at h
      · cases h
      rename_i f hf;split at h
      · cases h
      rename_i hc;rcases List.mem_cons.1 ht with rfl | ht
      · exact ⟨f, hf, by cases hk : Fm f t with | true => rfl | false => exact absurd (.inr hk) hc⟩
      exact tornE_ok h t ht
    cases h
def Nu {u : PF -> PF} {l : List PF} (h : ∀ f ∈ l, (u f).bytes.length <= f.bytes.length) : A4 (l.map u) <= A4 l := by
  induction l with
  | nil => exact Aac _
  | cons y l ih =>
    have h1 := h y Zs;have h2 := ih λf hf => h f (Aau _ hf)
    rw [A4] at h2 ⊢;rw [A4] at h2 ⊢;simp only [Aaf, Abe];omega
def Ce.crash (h:Ce room pl):Ce room (DS pl pts):=by
 unfold DS;split
 ·rename_i he;have hb:∀f∈pl,(Dv pts f).bytes.length<=f.bytes.length/\(Dv pts f).synced=(Dv pts f).bytes.length:=by
   intro f hf;have hs:=h.sync f hf;unfold Dv;split
   ·rename_i t ht;have ht2:t.name=f.name:=by have:=List.find?_some ht;simpa using this
    obtain⟨f0,h1,h2⟩:=tornE_ok he t (Aco ht);rw[ht2,F3 h.nodup hf]at h1;cases h1
    simp only[Fm,Aao,decide_eq_true_eq]at h2;refine⟨?_,rfl⟩;simp only[Eu,Aab,List.length_take];omega
   exact⟨by simp only[List.length_take];omega,rfl⟩
  refine⟨?_,?_,?_,?_,?_,h.room⟩
  ·rw[Aat,show((·.name)∘Dv pts)=(·.name)from funext λf=>G3 pts f];exact h.nodup
  ·intro f hf;obtain⟨g,hg,rfl⟩:=List.mem_map.1 hf;rw[G3];exact h.may g hg
  ·intro f hf;obtain⟨g,hg,rfl⟩:=List.mem_map.1 hf;exact Nat.le_of_eq (hb g hg).2
  ·have:=Nu (u:=Dv pts) (l:=pl) (λf hf=>(hb f hf).1);have:=h.used;omega
  rw[Aad];exact h.len
 exact h
def Sz (he:CU pl pts []=0):DS pl pts=pl.map (Dv pts):=by rw[DS,if_pos he]
def SA (he:CU pl pts []≠0):DS pl pts=pl:=by rw[DS,if_neg he]
def KS (h:BG gs=BG fs):gs.map (·.name)=fs.map (·.name):=by rw[<-Hg,<-Hg,h]
def SB {j:Nat}(hn:(rs.map (·.name)).Nodup)(hf:rs[j]? =some f)(h:∀x∈ls,x.name∈rs.map (·.name)->x∈ks):∀x∈ls,x.name∈(rs.eraseIdx j).map (·.name)->x∈ks:=λx hx h2=>h x hx ((Ee hn hf _).1 h2).1
def P9 {j:Nat}{x:Dp}{k1 k2:List Dp}(hn:(rs.map (·.name)).Nodup)(hf:rs[j]? =some f)(h:∀x∈ls,x.name∈rs.map (·.name)->x∈ks)(hk:ks=k1++x::k2)(e:x.name=f.name):∀x∈ls,x.name∈(rs.eraseIdx j).map (·.name)->x∈k1++k2:=λy hy h2=>by
 obtain⟨h3,h4⟩:=(Ee hn hf _).1 h2;have h5:=h y hy h3;rw[hk]at h5;simp only[Aak,Aai]at h5⊢;rcases h5 with h5|rfl|h5
 ·exact .inl h5
 ·exact absurd e h4
 exact .inr h5
def Ox {j:Nat}{f':Am}(hn:(rs.map (·.name)).Nodup)(hf:rs[j]? =some f)(h:∀f∈rs,f∈gs)(hg:gs=l1++f::l2):∀x∈rs.eraseIdx j,x∈l1++f'::l2:=λy hy=>by
 obtain⟨h1,h2⟩:=Sx hn hf hy;have h5:=h y h1;rw[hg]at h5;simp only[Aak,Aai]at h5⊢;rcases h5 with h5|rfl|h5
 ·exact .inl h5
 ·exact absurd rfl h2
 exact .inr (.inr h5)
end
attribute [local irreducible] X
def YM (d m:Nat)(room:Int)(fs:List Am)(a:Option Addr)(ts:List JI)(c:Nat)(pts:List Cz)(w:World)(hD:Bv w d m room fs)(hs:Ax w a ts)(ht:FK w ts pts)(hl:ts.length<=4294967295):
  Calls prog 17 #[jp d,.slice a ts.length c] w (AU (λv w'=>∃fs',v= .int .i64 (CU (fs.map Am.p) pts [])/\Bv w' d m room fs'/\fs'.map Am.p=DS (fs.map Am.p) pts/\(∀q,Be d m fs' q->q<w.heap.size->Be d m fs q)/\Ae (Be d m fs) w w')):=by
 obtain⟨hB,hM,hF,hmd,hfd,hfm,hok⟩:=hD;have hnd:=Bv.names hok;have hlens:=Ce.lens hok;have hroom:=hok.room;have hused:=hok.used;have hcnt:=hok.len;rw[Aad]at hcnt;refine kD (n:=60) func17 ?_;refine kS (Rk d m room fs _ (⟨hB,hM,hF,hmd,hfd,hfm,hok⟩:Bv _ d m room fs)) ?_;rintro _ _ ⟨rfl,rfl⟩;refine kE (Bp (b:=true) rfl) ?_;refine kH ?_;refine kS (gP d m room fs _ _ _ pts _ (⟨hB,hM,hF,hmd,hfd,hfm,hok⟩:Bv _ d m room fs) hs ht Zo) ?_;rintro _ bJ ⟨ac,(⟨hne0,rfl⟩|⟨he0,lm,ls,rfl,hLM,hL,hle,hlnd,hpr1,hge1,hge2⟩)⟩
 ·replace hB:=hB.ext ac;have K0:=(ac:As w _).to (S:=(Be d m fs));refine jG ?_;replace hM:=hM.ext ac;replace hF:=hF.ext ac;refine jF ?_ ?_
  ·intro hc21;refine kL func17 ?_;exact⟨_,rfl,fs,rfl,⟨hB,hM,hF,hmd,hfd,hfm,hok⟩,by rw[SA hne0],λ_ h _=>h,K0⟩
  intro hc21;exact absurd hc21 hne0
 have bK:=Ay (BB hge1) hB.lt;have aQ:=Ag (BB hge1) hF.oL;have aR:=Ay hge2 hB.lt;have aS:=Ag hge2 hM.oL;have aT:=Ag hge2 hF.oL;have aU:∀q_,BQ ls q_->q_<w.heap.size->(Be d m fs) q_:=GY (Aac _) hge2;have K0:=(ac:As w _).to (S:=(Be d m fs));refine jG ?_;refine Ai.condF rfl ?_;replace hB:=hB.ext ac;refine jG ?_;replace hM:=hM.ext ac;refine jR<|AB.rangeMap underlying118 rfl hM ?_;intro a0 bL ad aM ae;have aV:=Ay (BB ad) hB.lt;have aW:=Ag (BB ad) hM.oL;replace hF:=hF.ext ac;have aX:=Ag (BB ad) hF.oL;have aY:=Ag (BB ad) hLM.oL;have aZ:=Ag (BB ad) hL.oL;have b0:∀q_,one a0 q_->q_<w.heap.size->(Be d m fs) q_:=GY K0.size (BB ad);clear ad;refine jG ?_;replace hB:=hB.ext ae;replace hM:=hM.ext ae;replace hF:=hF.ext ae;replace hLM:=hLM.ext ae;replace hL:=hL.ext ae;replace K0:=K0.ext ae;refine Ai.loop (ι:=Nat) (λk ρ' w'=>∃rs:List Am,∃gs:List Am,∃ks:List Dp,∃la:Option (ByteArray×Value),Holds ρ' [(5,.map (some lm)),(27,jp a0)]/\Ae (Be d m fs) w w'/\(AC w' d [.map (some m),.int .i64 room] 120)/\(Aq w' m (BG fs))/\(Aq w' lm (Fq ls))/\(Cj w' a0 m (BG rs) la)/\(A3 w' gs)/\(Ck w' ks)/\(¬one a0 d)/\(∀q_,one a0 q_->¬one m q_)/\(∀q_,one a0 q_->¬one lm q_)/\(∀q_,one a0 q_->¬AF gs q_)/\(∀q_,one a0 q_->¬BQ ks q_)/\(∀q_,one a0 q_->q_<w.heap.size->(Be d m fs) q_)/\(¬AF gs d)/\(∀q_,AF gs q_->¬one m q_)/\(∀q_,AF gs q_->¬one lm q_)/\(∀q_,AF gs q_->¬BQ ks q_)/\(∀q_,AF gs q_->q_<w.heap.size->(Be d m fs) q_)/\(¬BQ ks d)/\(∀q_,BQ ks q_->¬one m q_)/\(∀q_,BQ ks q_->¬one lm q_)/\(∀q_,BQ ks q_->q_<w.heap.size->(Be d m fs) q_)/\(k=rs.length)/\(BG gs=BG fs)/\(gs.map Am.p=fs.map (TS pts rs))/\(∀f∈rs,f∈gs)/\(∀x∈ls,x.name∈rs.map (·.name)->x∈ks)/\(∀f∈rs,f∈fs)/\((rs.map (·.name)).Nodup)) (λk=>k) fs.length ?_ ?_
 ·refine⟨fs,fs,ls,none,⟨rfl,rfl,trivial⟩,K0,hB,hM,hLM,aM,hF,hL,aV,aW,aY,aX,aZ,b0,hfd,hfm,(Zf aQ),(Zf aT),(λq_ h_ _=>Or.inr (Or.inr h_)),aR,aS,hpr1,aU,?_,?_,?_,?_,?_,?_,?_⟩
  ·rfl
  ·rfl
  ·exact crM_zero
  ·exact λf h=>h
  ·exact λx h _=>h
  ·exact λf h=>h
  exact hnd
 clear hB hM hF hLM hL aM;clear K0;rintro k bM bN ⟨rs,gs,ks,la,aN,K0,hB,hM,hLM,a1,ag,a4,aq,ar,au,ah,an,av,ai,aj,ao,ap,ak,aw,ax,ay,az,hk,hge,hgp,hgm,hks,hsub,hrn⟩ ih1;obtain⟨ρ₀,rfl⟩:=aN.ex;clear aN;refine jG ?_;refine jR<|AB.nextMap rfl a1 ?_ ?_
 ·intro h0_46;replace h0_46:rs=[]:=by simpa[BG]using h0_46
  refine jG ?_;refine Ai.condF rfl ?_;have h0_:=h0_46;refine kL func17 ?_;rw[h0_,crM_end]at hgp;have heq:gs.map Am.p=DS (fs.map Am.p) pts:=by rw[Sz he0];exact hgp
  exact⟨_,rfl,gs,by rw[he0],⟨hB,by rw[hge];exact hM,ag,hmd,ai,aj,by rw[heq];exact hok.crash⟩,heq,EJ ak,K0⟩
 intro jx bO bP bQ h0_50 aA af;obtain⟨f,hf,rfl,rfl⟩:=Om h0_50;clear h0_50;rw[KL]at aA;replace K0:=K0.trans af (λx hlt hx=>av x hx hlt);replace a1:=aA;clear aA;refine kI ?_;refine jV (Nj rfl a1) ?_;refine Ii ?_;replace hB:=hB.keep af aq;replace hM:=hM.kO af (Zf ar);replace hLM:=hLM.kO af (Zf au);replace ag:=ag.kO af (Zf ah);replace a4:=a4.kO af (Zf an);by_cases h9:∃x∈ls,x.name=f.name
 ·have hfm_:f∈fs:=hsub f (Aan hf);have hfl:=hlens f hfm_;obtain⟨l1,l2,hgs⟩:=AbA (hgm f (Aan hf));obtain⟨hfa,hR,hRf⟩:=ag.openE hgs;obtain⟨hb,ho,hoa⟩:=hfa;have hcp:=ho.le_cap;have bR:f.blk≠d:=λe_=>ai (by first|(rw[<-e_];exact(BC hgs))|rw[<-e_]);have al:¬one m f.blk:=λh_=>aj _ (BC hgs) h_;have aB:¬one lm f.blk:=λh_=>ao _ (BC hgs) h_;have aC:¬one a0 f.blk:=λh_=>(Zf ah) _ (BC hgs) h_;have aO:¬BQ ks f.blk:=λh_=>ap _ (BC hgs) h_;have aD:f.blk<w.heap.size->(Be d m fs) f.blk:=λhl_=>ak _ (BC hgs) hl_;have b1:¬AF (l1++l2) d:=λh_=>ai ((Bt hgs) _ h_);have b2:∀q_,AF (l1++l2) q_->¬one m q_:=λq_ h_=>aj q_ ((Bt hgs) q_ h_);have b3:∀q_,AF (l1++l2) q_->¬one lm q_:=λq_ h_=>ao q_ ((Bt hgs) q_ h_);have b4:∀q_,AF (l1++l2) q_->¬one a0 q_:=λq_ h_=>(Zf ah) q_ ((Bt hgs) q_ h_);have aP:∀q_,AF (l1++l2) q_->¬BQ ks q_:=λq_ h_=>ap q_ ((Bt hgs) q_ h_);obtain⟨x,hxl,hxn⟩:=h9;obtain⟨k1,k2,hkk⟩:=AbA (hks x hxl (by rw[hxn];exact List.mem_map.2 ⟨f,Aan hf,rfl⟩));obtain⟨hx,hL2,hLx⟩:=a4.openE hkk;have b5:¬own x.a d:=λh_=>aw ((EK hkk) _ h_);have b6:∀q_,own x.a q_->¬one m q_:=λq_ h_=>ax q_ ((EK hkk) q_ h_);have b7:∀q_,own x.a q_->¬one lm q_:=λq_ h_=>ay q_ ((EK hkk) q_ h_);have b8:∀q_,own x.a q_->¬one a0 q_:=λq_ h_=>(Zf an) q_ ((EK hkk) q_ h_);have aE:¬own x.a f.blk:=λh_=>aO ((EK hkk) _ h_);have b9:∀q_,own x.a q_->¬AF (l1++l2) q_:=λq_ h_=>(Zf aP) q_ ((EK hkk) q_ h_);have ba:¬BQ (k1++k2) d:=λh_=>aw ((EL hkk) _ h_);have bb:∀q_,BQ (k1++k2) q_->¬one m q_:=λq_ h_=>ax q_ ((EL hkk) q_ h_);have bc:∀q_,BQ (k1++k2) q_->¬one lm q_:=λq_ h_=>ay q_ ((EL hkk) q_ h_);have be:∀q_,BQ (k1++k2) q_->¬one a0 q_:=λq_ h_=>(Zf an) q_ ((EL hkk) q_ h_);have aF:¬BQ (k1++k2) f.blk:=λh_=>aO ((EL hkk) _ h_);have bg:∀q_,BQ (k1++k2) q_->¬AF (l1++l2) q_:=λq_ h_=>(Zf aP) q_ ((EL hkk) q_ h_);refine jG ?_;refine jV (Di (v':= .tuple #[.slice x.a x.bytes.length x.cap,.bool true]) (BE underlying115 underlying9 rfl ty98 rfl rfl hLM) (by rw[Ot hlnd hxl hxn];rfl)) ?_;refine Ii ?_;refine ET ?_;refine kE (Bp (b:=true) rfl) ?_;refine kH ?_;refine jR<|jS hb ?_;intro bS hb a5;replace hx:=hx.kO a5 (Aa aE);replace K0:=K0.trans a5 (λx hlt hx=>by simp only[one]at hx;subst hx;exact aD hlt);refine jG ?_;refine jR<|jS hb ?_;intro bh hb a6;replace hx:=hx.kO a6 (Aa aE);replace K0:=K0.trans a6 (λx hlt hx=>by simp only[one]at hx;subst hx;exact aD hlt);refine jG ?_;replace hR:=(hR.kO a5 (Zx (λh_=>hRf _ h_ (Or.inl rfl)))).kO a6 (Zx (λh_=>hRf _ h_ (Or.inl rfl)));have hF':A3 bh (l1++(⟨f.name,f.blk,x.a,x.cap,x.bytes,x.bytes.length⟩:Am)::l2):=A3.close ⟨hb,hx,aE⟩ hR (λq_ h1 h2=>h2.elim (λe_=>(λh_=>hRf _ h_ (Or.inl rfl)) (show AF (l1++l2) f.blk from(show q_=f.blk from e_)▸h1)) (λy_=>(Zf b9) q_ h1 y_));have bi:¬AF (l1++(⟨f.name,f.blk,x.a,x.cap,x.bytes,x.bytes.length⟩:Am)::l2) d:=λx_=>(Bq _ x_).elim (λe_=>absurd e_ Zo) (λy_=>y_.elim b5 (λy_=>b1 y_));have bj:∀q_,AF (l1++(⟨f.name,f.blk,x.a,x.cap,x.bytes,x.bytes.length⟩:Am)::l2) q_->¬one m q_:=λq_ x_ z_=>(Bq _ x_).elim (λe_=>al (show one m f.blk from e_▸z_)) (λy_=>y_.elim (λy_=>b6 q_ y_ z_) (λy_=>(λy_=>b2 q_ y_ z_) y_))
  have bk:∀q_,AF (l1++(⟨f.name,f.blk,x.a,x.cap,x.bytes,x.bytes.length⟩:Am)::l2) q_->¬one lm q_:=λq_ x_ z_=>(Bq _ x_).elim (λe_=>aB (show one lm f.blk from e_▸z_)) (λy_=>y_.elim (λy_=>b7 q_ y_ z_) (λy_=>(λy_=>b3 q_ y_ z_) y_));have bl:∀q_,AF (l1++(⟨f.name,f.blk,x.a,x.cap,x.bytes,x.bytes.length⟩:Am)::l2) q_->¬one a0 q_:=λq_ x_ z_=>(Bq _ x_).elim (λe_=>aC (show one a0 f.blk from e_▸z_)) (λy_=>y_.elim (λy_=>b8 q_ y_ z_) (λy_=>(λy_=>b4 q_ y_ z_) y_));have bm:∀q_,AF (l1++(⟨f.name,f.blk,x.a,x.cap,x.bytes,x.bytes.length⟩:Am)::l2) q_->¬BQ (k1++k2) q_:=λq_ x_ z_=>(Bq _ x_).elim (λe_=>aF (show BQ (k1++k2) f.blk from e_▸z_)) (λy_=>y_.elim (λy_=>(Zf hLx) q_ y_ z_) (λy_=>(λy_=>(Zf bg) q_ y_ z_) y_));have bn:∀q_,AF (l1++(⟨f.name,f.blk,x.a,x.cap,x.bytes,x.bytes.length⟩:Am)::l2) q_->q_<w.heap.size->(Be d m fs) q_:=λq_ x_ hl_=>(Bq _ x_).elim (λe_=>e_▸aD (e_▸hl_)) (λy_=>y_.elim (λy_=>(λq_ h_ hl_=>az q_ ((EK hkk) q_ h_) hl_) q_ y_ hl_) (λy_=>(λy_=>(λq_ h_ hl_=>ak q_ ((Bt hgs) q_ h_) hl_) q_ y_ hl_) y_));have hents:BG (l1++(⟨f.name,f.blk,x.a,x.cap,x.bytes,x.bytes.length⟩:Am)::l2)=BG fs:=(Io hgs _ _ _ _).symm.trans hge;have hgp':=Ow hnd (by rw[KS hge];exact hnd) hrn hsub hf hgs hgp (⟨f.name,f.blk,x.a,x.cap,x.bytes,x.bytes.length⟩:Am) (Uu hnd hlnd hle hfm_ hxl hxn);have hgm':=Ox (f':=(⟨f.name,f.blk,x.a,x.cap,x.bytes,x.bytes.length⟩:Am)) hrn hf hgm hgs;have hks':=P9 hrn hf hks hkk hxn;refine ih1 ((rs.eraseIdx jx).length) _ _ ?_ (by rw[hk];exact KN hf);replace hB:=(hB.kp a5).kp a6;replace hM:=(hM.kO a5 (Aa al)).kO a6 (Aa al);replace hLM:=(hLM.kO a5 (Aa aB)).kO a6 (Aa aB);replace a1:=(a1.kO a5 (Aa aC) (Aa al)).kO a6 (Aa aC) (Aa al);replace ho:=(ho.kO a5 (Aa hoa)).kO a6 (Aa hoa);replace hL2:=(hL2.kO a5 (Aa aF)).kO a6 (Aa aF);refine⟨rs.eraseIdx jx,(l1++(⟨f.name,f.blk,x.a,x.cap,x.bytes,x.bytes.length⟩:Am)::l2),(k1++k2),_,⟨rfl,rfl,trivial⟩,K0,hB,hM,hLM,a1,hF',hL2,aq,ar,au,(Zf bl),(Zf be),av,bi,bj,bk,bm,bn,ba,bb,bc,(λq_ h_ hl_=>az q_ ((EL hkk) q_ h_) hl_),?_,?_,?_,?_,?_,?_,?_⟩
  ·rfl
  ·exact hents
  ·exact hgp'
  ·exact hgm'
  ·exact hks'
  ·exact λf h=>hsub f (AbW h)
  exact JJ hrn
 have hfm_:f∈fs:=hsub f (Aan hf);have hfl:=hlens f hfm_;obtain⟨l1,l2,hgs⟩:=AbA (hgm f (Aan hf));obtain⟨hfa,hR,hRf⟩:=ag.openE hgs;obtain⟨hb,ho,hoa⟩:=hfa;have hcp:=ho.le_cap;have bT:f.blk≠d:=λe_=>ai (by first|(rw[<-e_];exact(BC hgs))|rw[<-e_]);have am:¬one m f.blk:=λh_=>aj _ (BC hgs) h_;have aG:¬one lm f.blk:=λh_=>ao _ (BC hgs) h_;have aH:¬one a0 f.blk:=λh_=>(Zf ah) _ (BC hgs) h_;have aI:¬BQ ks f.blk:=λh_=>ap _ (BC hgs) h_;have aJ:f.blk<w.heap.size->(Be d m fs) f.blk:=λhl_=>ak _ (BC hgs) hl_;have bo:¬AF (l1++l2) d:=λh_=>ai ((Bt hgs) _ h_);have bp:∀q_,AF (l1++l2) q_->¬one m q_:=λq_ h_=>aj q_ ((Bt hgs) q_ h_);have bq:∀q_,AF (l1++l2) q_->¬one lm q_:=λq_ h_=>ao q_ ((Bt hgs) q_ h_);have bs:∀q_,AF (l1++l2) q_->¬one a0 q_:=λq_ h_=>(Zf ah) q_ ((Bt hgs) q_ h_);have bt:∀q_,AF (l1++l2) q_->¬BQ ks q_:=λq_ h_=>ap q_ ((Bt hgs) q_ h_);have hxno:∀x∈ls,x.name≠f.name:=λx hx e=>h9 ⟨x,hx,e⟩;refine jG ?_;refine jV (Di (v':= .tuple #[.slice none 0 0,.bool false]) (BE underlying115 underlying9 rfl ty98 rfl rfl hLM) (by rw[Oq hxno];rfl)) ?_;refine Ii ?_;refine ET ?_;refine kE (Bp (b:=false) rfl) ?_;refine C8 ?_;have htl:=List.length_take (i:=f.synced) (l:=f.bytes);refine Ai.drawS [] [0,1,2,1003,4,5,6,1007,8,2009,10] ?_;intro bU a7;replace hb:=hb.ext a7;refine kF (jb hb Jn) ?_;refine jP ?_ (hx:=by exact λ_=>(HH (m':=(f.bytes.take f.synced).length) (B7 underlying98 ty5 rfl rfl Zo) Zt));replace ho:=ho.ext a7;refine jU rfl<|jC (KP _ _ _ _ (ho.sl.take f.synced) Zo) ?_;rintro _ bV ⟨a2,a3,rfl,aK,a8,a9⟩;replace hB:=hB.ext a7;have bu:=Ay a8 hB.lt;replace hM:=hM.ext a7;have bv:=Ag a8 hM.oL;replace hLM:=hLM.ext a7;have bw:=Ag a8 hLM.oL;replace a1:=a1.ext a7;have bx:=Ag a8 a1.oL;replace a4:=a4.ext a7;have bz:=Ag a8 a4.oL;have aL:=Ay a8 hb.lt;replace hR:=hR.ext a7;have bA:=Ag a8 hR.oL;replace K0:=K0.ext a7;have bB:∀q_,own a2 q_->q_<w.heap.size->(Be d m fs) q_:=GY K0.size a8;clear a8;replace hb:=hb.ext a9;refine jG ?_;refine jR<|jS hb ?_;intro bW hb aa;replace K0:=K0.ext a9;replace K0:=K0.trans aa (λx hlt hx=>by simp only[one]at hx;subst hx;exact aJ hlt);refine jG ?_;refine jR<|jS hb ?_;intro bC hb ab;replace K0:=K0.trans ab (λx hlt hx=>by simp only[one]at hx;subst hx;exact aJ hlt);refine jG ?_;replace hR:=((hR.ext a9).kO aa (Zx (λh_=>hRf _ h_ (Or.inl rfl)))).kO ab (Zx (λh_=>hRf _ h_ (Or.inl rfl)));replace aK:=(aK.kO aa (Aa aL)).kO ab (Aa aL);have hF':A3 bC (l1++(⟨f.name,f.blk,a2,a3,f.bytes.take f.synced,(f.bytes.take f.synced).length⟩:Am)::l2):=A3.close ⟨hb,aK,aL⟩ hR (λq_ h1 h2=>h2.elim (λe_=>(λh_=>hRf _ h_ (Or.inl rfl)) (show AF (l1++l2) f.blk from(show q_=f.blk from e_)▸h1)) (λy_=>(Zf bA) q_ h1 y_));have bD:¬AF (l1++(⟨f.name,f.blk,a2,a3,f.bytes.take f.synced,(f.bytes.take f.synced).length⟩:Am)::l2) d:=λx_=>(Bq _ x_).elim (λe_=>absurd e_ Zo) (λy_=>y_.elim bu (λy_=>bo y_));have bE:∀q_,AF (l1++(⟨f.name,f.blk,a2,a3,f.bytes.take f.synced,(f.bytes.take f.synced).length⟩:Am)::l2) q_->¬one m q_:=λq_ x_ z_=>(Bq _ x_).elim (λe_=>am (show one m f.blk from e_▸z_)) (λy_=>y_.elim (λy_=>bv q_ y_ z_) (λy_=>(λy_=>bp q_ y_ z_) y_));have bF:∀q_,AF (l1++(⟨f.name,f.blk,a2,a3,f.bytes.take f.synced,(f.bytes.take f.synced).length⟩:Am)::l2) q_->¬one lm q_:=λq_ x_ z_=>(Bq _ x_).elim (λe_=>aG (show one lm f.blk from e_▸z_)) (λy_=>y_.elim (λy_=>bw q_ y_ z_) (λy_=>(λy_=>bq q_ y_ z_) y_))
 have bG:∀q_,AF (l1++(⟨f.name,f.blk,a2,a3,f.bytes.take f.synced,(f.bytes.take f.synced).length⟩:Am)::l2) q_->¬one a0 q_:=λq_ x_ z_=>(Bq _ x_).elim (λe_=>aH (show one a0 f.blk from e_▸z_)) (λy_=>y_.elim (λy_=>bx q_ y_ z_) (λy_=>(λy_=>bs q_ y_ z_) y_));have bH:∀q_,AF (l1++(⟨f.name,f.blk,a2,a3,f.bytes.take f.synced,(f.bytes.take f.synced).length⟩:Am)::l2) q_->¬BQ ks q_:=λq_ x_ z_=>(Bq _ x_).elim (λe_=>aI (show BQ ks f.blk from e_▸z_)) (λy_=>y_.elim (λy_=>bz q_ y_ z_) (λy_=>(λy_=>bt q_ y_ z_) y_));have bI:∀q_,AF (l1++(⟨f.name,f.blk,a2,a3,f.bytes.take f.synced,(f.bytes.take f.synced).length⟩:Am)::l2) q_->q_<w.heap.size->(Be d m fs) q_:=λq_ x_ hl_=>(Bq _ x_).elim (λe_=>e_▸aJ (e_▸hl_)) (λy_=>y_.elim (λy_=>bB q_ y_ hl_) (λy_=>(λy_=>(λq_ h_ hl_=>ak q_ ((Bt hgs) q_ h_) hl_) q_ y_ hl_) y_));have hents:BG (l1++(⟨f.name,f.blk,a2,a3,f.bytes.take f.synced,(f.bytes.take f.synced).length⟩:Am)::l2)=BG fs:=(Io hgs _ _ _ _).symm.trans hge;have hgp':=Ow hnd (by rw[KS hge];exact hnd) hrn hsub hf hgs hgp (⟨f.name,f.blk,a2,a3,f.bytes.take f.synced,(f.bytes.take f.synced).length⟩:Am) (Ut hle hxno);have hgm':=Ox (f':=(⟨f.name,f.blk,a2,a3,f.bytes.take f.synced,(f.bytes.take f.synced).length⟩:Am)) hrn hf hgm hgs;have hks':=SB hrn hf hks;refine ih1 ((rs.eraseIdx jx).length) _ _ ?_ (by rw[hk];exact KN hf);replace hB:=((hB.ext a9).kp aa).kp ab;replace hM:=((hM.ext a9).kO aa (Aa am)).kO ab (Aa am);replace hLM:=((hLM.ext a9).kO aa (Aa aG)).kO ab (Aa aG);replace a1:=((a1.ext a9).kO aa (Aa aH) (Aa am)).kO ab (Aa aH) (Aa am);replace a4:=((a4.ext a9).kO aa (Aa aI)).kO ab (Aa aI);replace ho:=((ho.ext a9).kO aa (Aa hoa)).kO ab (Aa hoa);refine⟨rs.eraseIdx jx,(l1++(⟨f.name,f.blk,a2,a3,f.bytes.take f.synced,(f.bytes.take f.synced).length⟩:Am)::l2),ks,_,⟨rfl,rfl,trivial⟩,K0,hB,hM,hLM,a1,hF',a4,aq,ar,au,(Zf bG),an,av,bD,bE,bF,bH,bI,aw,ax,ay,az,?_,?_,?_,?_,?_,?_,?_⟩
 ·rfl
 ·exact hents
 ·exact hgp'
 ·exact hgm'
 ·exact hks'
 ·exact λf h=>hsub f (AbW h)
 exact JJ hrn
end Go.Proofs.YtjkaicjmfgekjaaGreatDoor
namespace Go.Proofs.YtjkaicjmfgekjaaGreatDoor
open Go.Proofs.Tryz
attribute [local irreducible] RD RS AB RL RA RT CB Ai
end Go.Proofs.YtjkaicjmfgekjaaGreatDoor
namespace Go.Proofs.YtjkaicjmfgekjaaGreatDoor
open Go.Proofs.Tryz
attribute [local irreducible] RD RS AB RL RA RT CB Ai
def Ev {P:Program}{f:FuncId}{args:Array Value}{w:World}{Φ Ψ:Value->World->Prop}(h:Calls P f args w (AU Φ))(hh:∀v w',Φ v w'->Ψ v w'):Calls P f args w (AU Ψ):=
 h.mono λ_ _ ⟨v,e,hv⟩=>⟨v,e,hh v _ hv⟩
def Fs (d:Nat)(F:Nat->Prop)(room:Int)(w:World)(E:Int)(L:List PF):Value->World->Prop:=λv w'=>∃F',v= .int .i64 E/\AJ w' d F' room L/\AR w F F'/\Ae F w w'
def Oy {w w':World}{d m:Nat}{room:Int}{fs:List Am}{E E':Int}{L L':List PF}{v:Value}
  (h:∃fs',v= .int .i64 E/\Bv w' d m room fs'/\(fs'.map Am.p).Perm L/\(∀q,Be d m fs' q->q<w.heap.size->Be d m fs q)/\Ae (Be d m fs) w w') (e:E=E') (p:L.Perm L'):Fs d (Be d m fs) room w E' L' v w':=by
 obtain⟨fs',rfl,h1,h2,h3,h4⟩:=h;subst e;exact⟨_,rfl,⟨m,fs',rfl,h2.trans p,h1⟩,Mo h3,h4⟩
def Ip {w w':World}{d m:Nat}{room:Int}{fs:List Am}{E E':Int}{L L':List PF}{v:Value}
  (h:∃fs',v= .int .i64 E/\Bv w' d m room fs'/\fs'.map Am.p=L/\(∀q,Be d m fs' q->q<w.heap.size->Be d m fs q)/\Ae (Be d m fs) w w') (e:E=E') (p:L.Perm L'):Fs d (Be d m fs) room w E' L' v w':=by
 obtain⟨fs',h0,h1,h2,h3⟩:=h;exact Oy ⟨fs',h0,h1,h2▸List.Perm.refl _,h3⟩ e p
def Gx {pl pl':List PF}(p:pl.Perm pl')(n:ByteArray):CX pl n=CX pl' n:=by rw[CX,CX,F2 p]
def SC {pl pl':List PF}(p:pl.Perm pl')(n to:ByteArray):E9 pl n to=E9 pl' n to:=by rw[E9,E9,F2 p]
def A9 (pl:List PF)(n:ByteArray):List UInt8:=((CD pl n).map (·.bytes)).getD []
def Iq (pl:List PF)(n:ByteArray):Nat:=((CD pl n).map (·.bytes.length)).getD 0
def Yf (pl:List PF)(n:ByteArray):Nat:=((CD pl n).map (·.synced)).getD 0
section
variable {w :World}{d:Nat}{F:Nat->Prop}{room:Int}{pl:List PF}
def Uv (h:AJ w d F room pl)(name:ByteArray)(a:Option Addr)(b:List UInt8)(c:Nat)(hs:name.size<=4294967295)(hsl:Ax w a b)(hdis:∀x,a=some x->b≠ []->¬F x.block)(hbl:b.length<=4294967295):
  Calls prog 95 #[jp d,.string name,.slice a b.length c] w (AU (Fs d F room w (Df room pl name b) (Do room pl name b))):=by
 obtain⟨m,fs,rfl,hp,hO⟩:=h;exact Ev (append_ d m room fs name a b c w hO hs hsl hdis hbl) λv w' h=>Ip h (Mk hp name b) (Sp hp name b)
def J4 (h:AJ w d F room pl)(name:ByteArray)(a:Option Addr)(b:List UInt8)(c:Nat)(hs:name.size<=4294967295)(hsl:Ax w a b)(hdis:∀x,a=some x->¬F x.block)(hbl:b.length<=4294967295):
  Calls prog 95 #[jp d,.string name,.slice a b.length c] w (AU (Fs d F room w (Df room pl name b) (Do room pl name b))):=
 Uv h name a b c hs hsl (λx hx _=>hdis x hx) hbl
def Oz (h:AJ w d F room pl)(name:ByteArray)(hs:name.size<=4294967295):Calls prog 93 #[jp d,.string name] w (AU (Fs d F room w (CX pl name) (Cq pl name))):=by
 obtain⟨m,fs,rfl,hp,hO⟩:=h;exact Ev (gO d m room fs name w hO hs) λv w' h=>Ip h (Gx hp name) (Ml hp name _)
def WJ (h:AJ w d F room pl)(name to:ByteArray)(hs:name.size<=4294967295)(hs2:to.size<=4294967295):Calls prog 189 #[jp d,.string name,.string to] w (AU (Fs d F room w (E9 pl name to) (HD pl name to))):=by
 obtain⟨m,fs,rfl,hp,hO⟩:=h;exact Ev (WE d m room fs name to w hO hs hs2) λv w' h=>Oy h (SC hp name to) (Sq hO.ok.nodup hp name to)
def Hk (h:AJ w d F room pl)(name:ByteArray)(hs:name.size<=4294967295):Calls prog 112 #[jp d,.string name] w (AU (Fs d F room w (CX pl name) (Br pl name))):=by
 obtain⟨m,fs,rfl,hp,hO⟩:=h;exact Ev (WD d m room fs name w hO hs) λv w' h=>Ip h (Gx hp name) (I4 hp name)
def Uw (h:AJ w d F room pl)(a:Option Addr)(ts:List JI)(c:Nat)(pts:List Cz)(hs:Ax w a ts)(ht:FK w ts pts)(hl:ts.length<=4294967295):
  Calls prog 17 #[jp d,.slice a ts.length c] w (AU (Fs d F room w (CU pl pts []) (DS pl pts))):=by
 obtain⟨m,fs,rfl,hp,hO⟩:=h;exact Ev (YM d m room fs a ts c pts w hO hs ht hl) λv w' h=>Ip h (HU hO.ok.nodup hp pts []) (Ok hO.ok.nodup hp pts)
def gQ (h:AJ w d F room pl)(name:ByteArray)(hs:name.size<=4294967295):Calls prog 176 #[jp d,.string name] w
  (AU λv w'=>∃a' c',v= .tuple #[.slice a' (A9 pl name).length c',.int .i64 (CX pl name)]/\Af w' 5 a' c' (A9 pl name)/\(∀b,own a' b->w.heap.size<=b)/\As w w'):=by
 obtain⟨m,fs,rfl,hp,hO⟩:=h;refine Ev (gM d m room fs name w hO hs) λv w' h=> ?_;obtain⟨a',c',bs,rfl,h1,h2,h3,h4⟩:=h;have e:bs=A9 pl name:=by rw[h3,A9,Gw hO.ok.nodup hp]
 subst e;exact⟨a',c',by rw[Gx hp],h1,h2,h4⟩
def gR (h:AJ w d F room pl)(name:ByteArray)(hs:name.size<=4294967295):Calls prog 58 #[jp d,.string name] w
  (AU λv w'=>v= .tuple #[.int .i64 ((Iq pl name:Nat):Int),.int .i64 ((Yf pl name:Nat):Int),.int .i64 (CX pl name)]/\As w w'):=by
 obtain⟨m,fs,rfl,hp,hO⟩:=h;refine Ev (gN d m room fs name w hO hs) λv w' h=> ?_;obtain⟨rfl,h⟩:=h;exact⟨by rw[Gx hp,Gw hO.ok.nodup hp];rfl,h⟩
end
def iZ (room:Int)(w:World):Calls prog 25 #[.int .i64 room] w (AU λv w'=>(¬(0<=room/\room<=16777216)/\v= .tuple #[.pointer none,.int .i64 1]/\As w w')\/
  ((0<=room/\room<=16777216)/\∃d F,v= .tuple #[jp d,.int .i64 0]/\AJ w' d F room []/\(∀q,F q->w.heap.size<=q)/\As w w')):=by
 refine Ev (iY room w) λv w' h=> ?_;rcases h with h|⟨h1,d,m,h2,h3,h4,h5⟩
 ·exact .inl h
 exact .inr ⟨h1,d,_,h2,⟨m,[],rfl,List.Perm.refl _,h3⟩,h4,h5⟩
def Ef {d:Nat}{F:Nat->Prop}{room:Int}{w:World}{E E':Int}{L L':List PF}{f:FuncId}{args:Array Value}(h:Calls prog f args w (AU (Fs d F room w E L)))(e:E=E')(p:L=L'):Calls prog f args w (AU (Fs d F room w E' L')):=by subst e;subst p;exact h
structure i6 where
 op:Int
 name:ByteArray
 other:ByteArray
 bytes:List UInt8
 tears:List Cz
structure gB where
 op:Int
 name:ByteArray
 other:ByteArray
 bytes:SH
 tears:SH
instance : Enc gB:=Enc.struct (λt=>[.int .i64 t.op,.string t.name,.string t.other,.slice t.bytes.a t.bytes.len t.bytes.cap,.slice t.tears.a t.tears.len t.tears.cap]) 5 (λ_=>rfl) (λ_ v hv=>by simp at hv;rcases hv with rfl|rfl|rfl|rfl|rfl<;>rfl) Zd
structure WK (w:World)(o:gB)(b:List UInt8)(pts:List Cz):Prop where
 bl:o.bytes.len=b.length
 bs:Ax w o.bytes.a b
 ts:∃ts:List JI,o.tears.len=ts.length/\Ax w o.tears.a ts/\FK w ts pts
 size:o.name.size<=4294967295/\o.other.size<=4294967295/\b.length<=4294967295/\pts.length<=4294967295
def WK.ext {w w':World}{o:gB}{b:List UInt8}{pts:List Cz}(h:WK w o b pts)(k:As w w'):WK w' o b pts:=
 ⟨h.bl,h.bs.ext k,by obtain⟨ts,h1,h2,h3⟩:=h.ts;exact⟨ts,h1,h2.ext k,h3.ext k⟩,h.size⟩
structure Ux (w:World)(l:List gB)(ps:List i6):Prop where
 len:l.length=ps.length
 all:∀(i:Nat) (o:gB) (p:i6),l[i]? =some o->ps[i]? =some p->∃b pts,p=⟨o.op,o.name,o.other,b,pts⟩/\WK w o b pts
def Ux.ext {w w':World}{l:List gB}{ps:List i6}(h:Ux w l ps)(k:As w w'):Ux w' l ps:=
 ⟨h.len,λi o p h1 h2=>by obtain⟨b,pts,e,h3⟩:=h.all i o p h1 h2;exact⟨b,pts,e,h3.ext k⟩⟩
end Go.Proofs.YtjkaicjmfgekjaaGreatDoor
