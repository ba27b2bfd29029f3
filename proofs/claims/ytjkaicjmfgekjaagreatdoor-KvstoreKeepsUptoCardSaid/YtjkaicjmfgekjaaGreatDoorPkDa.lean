/-
  Da, Db, Dc, Dd, De, Df, Dg
-/
import Derived.Test.YtjkaicjmfgekjaaGreatDoorPkStr
import Derived.Test.YtjkaicjmfgekjaaGreatDoorPkI
set_option linter.all false
set_option maxRecDepth 100000
set_option maxHeartbeats 4000000
namespace Go.Proofs.YtjkaicjmfgekjaaGreatDoor
open Go.Proofs.Tryz
attribute [local irreducible] RD RS AA RL RA RT Cz Ai
structure PF where
 name:ByteArray
 bytes:List UInt8
 synced:Nat
def VM (c:UInt8):Bool:=decide (c.toNat=46∨c.toNat=45∨c.toNat=95∨(48<=c.toNat∧c.toNat<=57)∨(97<=c.toNat∧c.toNat<=122)∨(65<=c.toNat∧c.toNat<=90))
def CK (s:ByteArray):Bool:=s.data.toList.all VM&&(decide (s.size≠0)&&decide (s.size<=32))
def AX (pl:List PF):Nat:=(pl.map (·.bytes.length)).sum
def Cs (pl:List PF)(n:ByteArray):Bool:=pl.any (fun f=>decide (f.name=n))
def Ci (pl:List PF)(n:ByteArray):Option PF:=pl.find? (fun f=>decide (f.name=n))
def CL (pl:List PF)(n:ByteArray):Int:=if CK n then(if Cs pl n then 0 else 20)else 6
def DF (pl:List PF)(n:ByteArray)(u:PF->PF):List PF:=pl.map fun f=>if f.name=n then u f else f
def De (room:Int)(pl:List PF)(n:ByteArray)(b:List UInt8):Int:=
 if CK n then(if (Cs pl n=false∧64<=pl.length)∨room-(AX pl:Int)<(b.length:Int)then 7 else 0)else 6
def Df (room:Int)(pl:List PF)(n:ByteArray)(b:List UInt8):List PF:=
 if De room pl n b=0 then(if Cs pl n then DF pl n (fun f=>{f with bytes:=f.bytes++b})else pl++[⟨n,b,0⟩])else pl
def Cd (pl:List PF)(n:ByteArray):List PF:=DF pl n (fun f=>{f with synced:=f.bytes.length})
def Bp (pl:List PF)(n:ByteArray):List PF:=pl.filter (fun f=>decide (f.name≠n))
def ET (pl:List PF)(n to:ByteArray):Int:=if CK n then(if CK to then(if Cs pl n then 0 else 20)else 6)else 6
def Hy (pl:List PF)(n to:ByteArray):List PF:=if ET pl n to=0 then(match Ci pl n with|some f=>Bp (Bp pl n) to++[{f with name:=to}]|none=>pl)else pl
structure B0 where
 name:ByteArray
 keep:Int
 junk:List UInt8
def EN (f:PF)(t:B0):Bool:=decide (0<=t.keep)&&(decide (t.keep<=(f.bytes.length:Int)-f.synced)&&decide ((t.junk.length:Int)<=(f.bytes.length:Int)-f.synced-t.keep))
def CA (pl : List PF) : List B0 -> List ByteArray -> Int
  | [], _ => 0
  | t :: l, seen => if CK t.name then (match Ci pl t.name with
    | none => 20
    | some f => if seen.any (fun s => decide (s = t.name)) = true ∨ EN f t = false then 21 else CA pl l (t.name :: seen)) else 6
def DW (f:PF)(t:B0):List UInt8:=f.bytes.take (f.synced+t.keep.toNat)++t.junk
def C9 (ts:List B0)(f:PF):PF:=match ts.find? (fun t=>decide (t.name=f.name))with
 |some t=>⟨f.name,DW f t,(DW f t).length⟩
 |none=>⟨f.name,f.bytes.take f.synced,(f.bytes.take f.synced).length⟩
def DO (pl:List PF)(ts:List B0):List PF:=if CA pl ts []=0 then pl.map (C9 ts)else pl
structure BV (room:Int)(pl:List PF):Prop where
 nodup:(pl.map (·.name)).Nodup
 may:∀f∈pl,CK f.name=true
 sync:∀f∈pl,f.synced<=f.bytes.length
 used:(AX pl:Int)<=room
 len:pl.length<=64
 room:0<=room∧room<=16777216
theorem BV.perm {room:Int}{pl pl':List PF}(h:BV room pl)(p:pl.Perm pl'):BV room pl':=
 ⟨(p.map _).nodup_iff.1 h.nodup,fun f hf=>h.may f (p.mem_iff.2 hf),fun f hf=>h.sync f (p.mem_iff.2 hf),by rw[AX,<-(p.map _).sum_nat];exact h.used,by rw[<-p.length_eq];exact h.len,h.room⟩
theorem Bg {pl:List PF}{n:ByteArray}:Cs pl n=true↔∃f∈pl,f.name=n:=by simp[Cs]
theorem Ph {pl:List PF}{n:ByteArray}(h:∀f∈pl,f.name≠n):Cs pl n=false:=by
 rw[Acb];intro e;obtain⟨f,hf,e⟩:=Bg.1 e;exact h f hf e
theorem F4 {pl pl':List PF}{n:ByteArray}(p:pl.Perm pl'):Cs pl n=Cs pl' n:=by
 rw[AaC,Bg,Bg]
 exact⟨fun⟨f,h,e⟩=>⟨f,p.mem_iff.1 h,e⟩,fun⟨f,h,e⟩=>⟨f,p.mem_iff.2 h,e⟩⟩
theorem Pi {pl pl':List PF}(p:pl.Perm pl'):AX pl=AX pl':=(p.map _).sum_nat
theorem LL {pl : List PF} {f : PF} (h : f ∈ pl) : f.bytes.length <= AX pl := by
  induction pl with
  | nil => cases h
  | cons x l ih =>
    rw [AX, Aae, Aa1]
    rcases List.mem_cons.1 h with rfl | h
    · omega
    · have := ih h; rw [AX] at this; omega
theorem Eo {pl : List PF} (hn : (pl.map (·.name)).Nodup) {f : PF} (h : f ∈ pl) : Ci pl f.name = some f := by
  induction pl with
  | nil => cases h
  | cons x l ih =>
    simp only [Aae, AaR] at hn
    rw [Ci, Abk]
    rcases List.mem_cons.1 h with rfl | h
    · simp
    · have : x.name ≠ f.name := fun e => hn.1 (e ▸ List.mem_map.2 ⟨f, h, rfl⟩)
      simp only [this, decide_false]
      exact ih hn.2 h
theorem Kj {pl:List PF}{n:ByteArray}{f:PF}(h:Ci pl n=some f):f∈pl∧f.name=n:=by
 have:=List.find?_some h
 exact⟨Acc h,by simpa using this⟩
theorem Kk {pl:List PF}{n:ByteArray}(h:∀f∈pl,f.name≠n):Ci pl n=none:=by
 rw[Ci,Abe];intro f hf;simpa using h f hf
theorem Gw {pl pl' : List PF} (hn : (pl.map (·.name)).Nodup) (p : pl.Perm pl') (n : ByteArray) : Ci pl n = Ci pl' n := by
  cases h : Ci pl n with
  | none =>
    rw [Kk]
    intro f hf
    have := List.find?_eq_none.1 h f (p.mem_iff.2 hf)
    simpa using this
  | some f =>
    obtain ⟨h1, rfl⟩ := Kj h
    rw [Eo ((p.map _).nodup_iff.1 hn) (p.mem_iff.1 h1)]
theorem LM {room:Int}{pl pl':List PF}(p:pl.Perm pl')(n:ByteArray)(b:List UInt8):De room pl n b=De room pl' n b:=by
 rw[De,De,F4 p,Pi p,p.length_eq]
theorem LN {pl pl':List PF}(p:pl.Perm pl')(n:ByteArray)(u:PF->PF):(DF pl n u).Perm (DF pl' n u):=p.map _
theorem RN {room:Int}{pl pl':List PF}(p:pl.Perm pl')(n:ByteArray)(b:List UInt8):(Df room pl n b).Perm (Df room pl' n b):=by
 rw[Df,Df,LM p,F4 p]
 split
 ·split
  ·exact LN p n _
  ·exact p.append_right _
 ·exact p
theorem IL {pl pl':List PF}(p:pl.Perm pl')(n:ByteArray):(Bp pl n).Perm (Bp pl' n):=p.filter _
theorem RO {pl pl':List PF}(hn:(pl.map (·.name)).Nodup)(p:pl.Perm pl')(n to:ByteArray):(Hy pl n to).Perm (Hy pl' n to):=by
 have e:ET pl n to=ET pl' n to:=by rw[ET,ET,F4 p]
 rw[Hy,Hy,e,Gw hn p]
 split
 ·split
  ·exact(IL (IL p n) to).append_right _
  ·exact p
 ·exact p
theorem HP {pl pl' : List PF} (hn : (pl.map (·.name)).Nodup) (p : pl.Perm pl') : ∀ (ts : List B0) (s : List ByteArray), CA pl ts s = CA pl' ts s
  | [], _ => rfl
  | t :: l, s => by
    rw [CA, CA, Gw hn p]
    split
    · split
      · rfl
      · split
        · rfl
        · exact HP hn p l _
    · rfl
theorem NF {pl pl':List PF}(hn:(pl.map (·.name)).Nodup)(p:pl.Perm pl')(ts:List B0):(DO pl ts).Perm (DO pl' ts):=by
 rw[DO,DO,HP hn p]
 split
 ·exact p.map _
 ·exact p
theorem Kl {l1 l2:List PF}{f:PF}{u:PF->PF}(hn:((l1++f::l2).map (·.name)).Nodup):DF (l1++f::l2) f.name u=l1++u f::l2:=by
 simp only[Aam,Aae]at hn
 have hd:=List.nodup_append.1 hn
 have h1:∀x∈l1,x.name≠f.name:=fun x hx=>hd.2.2 _ (List.mem_map.2 ⟨x,hx,rfl⟩) _ Zs
 have h2:∀x∈l2,x.name≠f.name:=fun x hx e=>(List.nodup_cons.1 hd.2.1).1 (e▸List.mem_map.2 ⟨x,hx,rfl⟩)
 rw[DF,Aam,Aae,if_pos rfl]
 congr 1
 ·exact(AaF fun x hx=>if_neg (h1 x hx)).trans (List.map_id'' (fun _=>rfl) _)
 ·congr 1
  exact(AaF fun x hx=>if_neg (h2 x hx)).trans (List.map_id'' (fun _=>rfl) _)
theorem Pj {l1 l2:List PF}{f:PF}(hn:((l1++f::l2).map (·.name)).Nodup):Bp (l1++f::l2) f.name=l1++l2:=by
 simp only[Aam,Aae]at hn
 have hd:=List.nodup_append.1 hn
 have h1:∀x∈l1,x.name≠f.name:=fun x hx=>hd.2.2 _ (List.mem_map.2 ⟨x,hx,rfl⟩) _ Zs
 have h2:∀x∈l2,x.name≠f.name:=fun x hx e=>(List.nodup_cons.1 hd.2.1).1 (e▸List.mem_map.2 ⟨x,hx,rfl⟩)
 rw[Bp,Abz,AbK,if_neg Zs,List.filter_eq_self.2 (fun x hx=>by simpa using h1 x hx),List.filter_eq_self.2 (fun x hx=>by simpa using h2 x hx)]
theorem IM {pl:List PF}{n:ByteArray}(h:∀f∈pl,f.name≠n):Bp pl n=pl:=List.filter_eq_self.2 fun x hx=>by simpa using h x hx
structure Al where
 name:ByteArray
 blk:Nat
 a:Option Addr
 cap:Nat
 bytes:List UInt8
 synced:Nat
def Al.p (f:Al):PF:=⟨f.name,f.bytes,f.synced⟩
def ent (f:Al):ByteArray×Value:=(f.name,jp f.blk)
def BC (fs:List Al):List (ByteArray×Value):=fs.map ent
structure E9 (w:World)(f:Al):Prop where
 blk:AB w f.blk [.slice f.a f.bytes.length f.cap,.int .i64 ((f.synced:Nat):Int)] 125
 own:Af w 5 f.a f.cap f.bytes
 apart:¬Go.Proofs.YtjkaicjmfgekjaaGreatDoor.own f.a f.blk
def DG (f:Al):Nat->Prop:=fun q=>q=f.blk∨own f.a q
def AD (fs:List Al):Nat->Prop:=fun q=>∃f∈fs,DG f q
structure AV (w:World)(fs:List Al):Prop where
 all:∀f∈fs,E9 w f
 apart:fs.Pairwise (fun f g=>∀q,DG f q->¬DG g q)
def A9 (d m:Nat)(fs:List Al):Nat->Prop:=fun q=>q=d∨(q=m∨AD fs q)
structure Bo (w:World)(d m:Nat)(room:Int)(fs:List Al):Prop where
 blk:AB w d [.map (some m),.int .i64 room] 120
 map:At w m (BC fs)
 files:AV w fs
 md:¬one m d
 fd:¬AD fs d
 fm:∀q,AD fs q->¬one m q
 ok:BV room (fs.map Al.p)
def AG (w:World)(d:Nat)(S:Nat->Prop)(room:Int)(pl:List PF):Prop:=∃m fs,S=A9 d m fs∧(fs.map Al.p).Perm pl∧Bo w d m room fs
section
variable {w w':World}{S:Nat->Prop}{f:Al}{fs l1 l2:List Al}{d m:Nat}{room:Int}
theorem E9.lt (h:E9 w f):∀q,DG f q->q<w.heap.size:=by
 rintro q (rfl|hq)
 ·exact h.blk.lt
 ·exact h.own.oL q hq
theorem E9.kO (h:E9 w f)(k:Ad S w w')(hn:∀q,DG f q->¬S q):E9 w' f:=
 ⟨h.blk.keep k (hn _ (.inl rfl)),h.own.kO k (fun q hq=>hn q (.inr hq)),h.apart⟩
theorem AV.oL (h:AV w fs):∀q,AD fs q->q<w.heap.size:=fun q ⟨f,hf,hq⟩=>(h.all f hf).lt q hq
theorem AV.kO (h:AV w fs)(k:Ad S w w')(hn:∀q,AD fs q->¬S q):AV w' fs:=
 ⟨fun f hf=>(h.all f hf).kO k (fun q hq=>hn q ⟨f,hf,hq⟩),h.apart⟩
theorem AV.ext (h:AV w fs)(k:Ap w w'):AV w' fs:=h.kO k fun _ _=>id
theorem AV.nil (w:World):AV w []:=⟨fun _ h=>absurd h Zs,List.Pairwise.nil⟩
theorem Pk (f g:Al):(∀q,DG f q->¬DG g q)↔(∀q,DG g q->¬DG f q):=⟨fun h q a b=>h q b a,fun h q a b=>h q b a⟩
theorem AV.perm (h:AV w fs){gs:List Al}(p:fs.Perm gs):AV w gs:=
 ⟨fun f hf=>h.all f (p.mem_iff.2 hf),(p.pairwise_iff (fun{a b} hab=>(Pk a b).1 hab)).1 h.apart⟩
theorem AV.open (h:AV w (l1++f::l2)):E9 w f∧AV w (l1++l2)∧∀q,AD (l1++l2) q->¬DG f q:=by
 have h':=h.perm List.perm_middle
 obtain⟨h1,h2⟩:=List.pairwise_cons.1 h'.apart
 exact⟨h'.all f Zs,⟨fun g hg=>h'.all g (AaB _ hg),h2⟩,fun q ⟨g,hg,hq⟩ hf=>h1 g hg q hf hq⟩
theorem AV.close (h:E9 w f)(h1:AV w (l1++l2))(h2:∀q,AD (l1++l2) q->¬DG f q):AV w (l1++f::l2):=by
 refine AV.perm (fs:=f::(l1++l2)) ⟨?_,List.pairwise_cons.2 ⟨fun g hg q hf hq=>h2 q ⟨g,hg,hq⟩ hf,h1.apart⟩⟩ List.perm_middle.symm
 intro g hg
 rcases List.mem_cons.1 hg with rfl|hg
 ·exact h
 ·exact h1.all g hg
theorem Ep {q:Nat}:AD (l1++f::l2) q↔DG f q∨AD (l1++l2) q:=by
 simp only[AD,Aak,Aai]
 constructor
 ·rintro⟨g,h|rfl|h,hq⟩
  ·exact .inr ⟨g,.inl h,hq⟩
  ·exact .inl hq
  ·exact .inr ⟨g,.inr h,hq⟩
 ·rintro(hq|⟨g,h|h,hq⟩)
  ·exact⟨f,.inr (.inl rfl),hq⟩
  ·exact⟨g,.inl h,hq⟩
  ·exact⟨g,.inr (.inr h),hq⟩
theorem files_case :∀q,AD (l1++f::l2) q->q=f.blk∨(own f.a q∨AD (l1++l2) q):=fun q h=>by
 rcases Ep.1 h with(h|h)|h
 ·exact .inl h
 ·exact .inr (.inl h)
 ·exact .inr (.inr h)
theorem Bo.oL (h:Bo w d m room fs):∀q,A9 d m fs q->q<w.heap.size:=by
 rintro q (rfl|rfl|hq)
 ·exact h.blk.lt
 ·exact h.map.lt
 ·exact h.files.oL q hq
theorem Bo.kO (h:Bo w d m room fs)(k:Ad S w w')(hn:∀q,A9 d m fs q->¬S q):Bo w' d m room fs:=
 ⟨h.blk.keep k (hn _ (.inl rfl)),h.map.keep k (hn _ (.inr (.inl rfl))),h.files.kO k (fun q hq=>hn q (.inr (.inr hq))),h.md,h.fd,h.fm,h.ok⟩
theorem Bo.ext (h:Bo w d m room fs)(k:Ap w w'):Bo w' d m room fs:=h.kO k fun _ _=>id
variable {F :Nat->Prop}{pl:List PF}
theorem AG.oL (h:AG w d F room pl):∀q,F q->q<w.heap.size:=by obtain⟨m,fs,rfl,_,h⟩:=h;exact h.oL
theorem AG.kO (h:AG w d F room pl)(k:Ad S w w')(hn:∀q,F q->¬S q):AG w' d F room pl:=by obtain⟨m,fs,rfl,hp,h⟩:=h;exact⟨m,fs,rfl,hp,h.kO k hn⟩
theorem AG.ext (h:AG w d F room pl)(k:Ap w w'):AG w' d F room pl:=h.kO k fun _ _=>id
theorem AG.ok (h:AG w d F room pl):BV room pl:=by obtain⟨m,fs,rfl,hp,h⟩:=h;exact h.ok.perm hp
theorem AG.perm (h:AG w d F room pl){pl':List PF}(p:pl.Perm pl'):AG w d F room pl':=by obtain⟨m,fs,e,hp,h⟩:=h;exact⟨m,fs,e,hp.trans p,h⟩
theorem LO {ps:List (ByteArray×Value)}{n:ByteArray}(h:∀p∈ps,p.1≠n):BO ps n=none:=by
 rw[BO,List.find?_eq_none.2 (fun p hp=>by simpa using fun e=>h p hp e.symm)];rfl
theorem RP {n:ByteArray}(h:∀f∈fs,f.name≠n):BO (BC fs) n=none:=LO fun p hp=>by
 obtain⟨f,hf,rfl⟩:=List.mem_map.1 hp;exact h f hf
theorem NG {ps qs:List (ByteArray×Value)}{n:ByteArray}{v:Value}(h:((ps++(n,v)::qs).map (·.1)).Nodup):BO (ps++(n,v)::qs) n=some v:=by
 have h1:∀p∈ps,p.1≠n:=fun p hp=>by
  simp only[Aam,Aae]at h
  exact(List.nodup_append.1 h).2.2 _ (List.mem_map.2 ⟨p,hp,rfl⟩) _ Zs
 rw[BO,List.find?_append,List.find?_eq_none.2 (fun p hp=>by simpa using fun e=>h1 p hp e.symm)]
 simp
theorem IN {n : ByteArray} {v : Value} {qs : List (ByteArray × Value)} : ∀ {ps : List (ByteArray × Value)} {i : Nat}, (∀ p ∈ ps, p.1 ≠ n) -> Dj n (ps ++ (n, v) :: qs) i = some (i + ps.length, v)
  | [], i, _ => by simp [Dj]
  | p :: ps, i, h => by
    rw [Abm, Dj, if_neg (fun e => h p Zs e.symm), IN (fun q hq => h q (by simp [hq]))]
    simp; omega
theorem Kn {n:ByteArray}:∀{ps:List (ByteArray×Value)} {i:Nat},(∀p∈ps,p.1≠n)->Dj n ps i=none
 |[],_,_=>rfl
 |p::ps,i,h=>by rw[Dj,if_neg (fun e=>h p Zs e.symm)];exact Kn fun q hq=>h q (by simp[hq])
theorem He (fs:List Al):(BC fs).map (·.1)=fs.map (·.name):=by simp[BC,ent]
theorem H8 (fs:List Al):(fs.map Al.p).map (·.name)=fs.map (·.name):=by simp[Al.p]
theorem TL (h:((l1++f::l2).map (·.name)).Nodup):∀g∈l1++l2,g.name≠f.name:=by
 have:=(List.perm_middle (a:=f) (l₁:=l1) (l₂:=l2)).map (·.name)
 have h2:=this.nodup_iff.1 h
 intro g hg e
 rw[Aae,AaR]at h2
 exact h2.1 (e▸List.mem_map.2 ⟨g,hg,rfl⟩)
theorem TM (h:((l1++f::l2).map (·.name)).Nodup):BO (BC (l1++f::l2)) f.name=some (jp f.blk):=by
 have e:BC (l1++f::l2)=BC l1++(f.name,jp f.blk)::BC l2:=by simp[BC,ent]
 rw[e]
 exact NG (by rw[<-e,He];exact h)
theorem LP {n:ByteArray}(hn:(fs.map (·.name)).Nodup)(e:fs=l1++f::l2)(hf:f.name=n):(BO (BC fs) n).getD (.pointer none)=jp f.blk:=by
 subst e;subst hf;rw[TM hn];rfl
theorem Pl {n:ByteArray}(h:∀f∈fs,f.name≠n):(BO (BC fs) n).getD (.pointer none)= .pointer none:=by rw[RP h];rfl
theorem AV.openE (h:AV w fs)(e:fs=l1++f::l2):E9 w f∧AV w (l1++l2)∧∀q,AD (l1++l2) q->¬DG f q:=by subst e;exact h.open
theorem By (e:fs=l1++f::l2):AD fs f.blk:=by subst e;exact Ep.2 (.inl (.inl rfl))
theorem DP (e:fs=l1++f::l2):∀q,own f.a q->AD fs q:=by subst e;exact fun q h=>Ep.2 (.inl (.inr h))
theorem Bk (e:fs=l1++f::l2):∀q,AD (l1++l2) q->AD fs q:=by subst e;exact fun q h=>Ep.2 (.inr h)
theorem CO (e:fs=l1++f::l2):f∈fs:=by subst e;simp
theorem Bo.names (h:BV room (fs.map Al.p)):(fs.map (·.name)).Nodup:=by have:=h.nodup;rwa[H8]at this
theorem BV.lens (h:BV room (fs.map Al.p)):∀f∈fs,f.synced<=f.bytes.length∧f.bytes.length<=16777216:=fun f hf=>by
 have h1:=h.sync f.p (List.mem_map.2 ⟨f,hf,rfl⟩)
 have h2:=LL (f:=f.p) (List.mem_map.2 ⟨f,hf,rfl⟩)
 have h3:=h.used
 have h4:=h.room
 have h5:f.p.bytes=f.bytes:=rfl
 rw[h5]at h2
 exact⟨h1,by omega⟩
theorem NH {rs:List Al}{j:Nat}{a:ByteArray}{v:Value}(h:(BC rs)[j]? =some (a,v)):∃f,rs[j]? =some f∧a=f.name∧v=jp f.blk:=by
 rw[BC,Aax,Abp]at h
 obtain⟨f,hf,e⟩:=h
 simp only[ent,Prod.mk.injEq]at e
 exact⟨f,hf,e.1.symm,e.2.symm⟩
theorem Ko (rs:List Al)(j:Nat):(BC rs).eraseIdx j=BC (rs.eraseIdx j):=(Do _ _ _).symm
theorem Ia {n:ByteArray}(h:∀f∈fs,f.name≠n)(b:Nat)(a:Option Addr)(c:Nat)(bs:List UInt8)(s:Nat):CX (BC fs) n (jp b)=BC (fs++[⟨n,b,a,c,bs,s⟩]):=by
 rw[CX,Kn (fun p hp=>by obtain⟨f,hf,rfl⟩:=List.mem_map.1 hp;exact h f hf)]
 simp[BC,ent]
theorem TN (h:((l1++f::l2).map (·.name)).Nodup):GS (BC (l1++f::l2)) f.name=BC (l1++l2):=by
 have e:BC (l1++f::l2)=BC l1++(f.name,jp f.blk)::BC l2:=by simp[BC,ent]
 have hne:∀p∈BC l1,p.1≠f.name:=fun p hp=>by obtain⟨g,hg,rfl⟩:=List.mem_map.1 hp;exact TL h g (by simp[hg])
 rw[e,GS,IN hne]
 simp only[Aaq]
 rw[List.eraseIdx_append_of_length_le (Aac _)]
 simp[BC]
theorem MJ (h:((l1++f::l2).map (·.name)).Nodup)(b:Nat)(f':Al)(hf:f'.name=f.name)(hb:f'.blk=b):CX (BC (l1++f::l2)) f.name (jp b)=BC (l1++f'::l2):=by
 have e:BC (l1++f::l2)=BC l1++(f.name,jp f.blk)::BC l2:=by simp[BC,ent]
 have hne:∀p∈BC l1,p.1≠f.name:=fun p hp=>by obtain⟨g,hg,rfl⟩:=List.mem_map.1 hp;exact TL h g (by simp[hg])
 rw[e,CX,IN hne]
 simp only[Aaq]
 rw[List.set_append_right _ _ (Aac _)]
 simp[BC,ent,hf,hb]
end
end Go.Proofs.YtjkaicjmfgekjaaGreatDoor
namespace Go.Proofs.YtjkaicjmfgekjaaGreatDoor
open Go.Proofs.Tryz
attribute [local irreducible] RD RS AA RL RA RT Cz Ai
theorem QI {c:UInt8}(h:c.toNat=46∨c.toNat=45∨c.toNat=95∨(48<=c.toNat∧c.toNat<=57)∨(97<=c.toNat∧c.toNat<=122)∨(65<=c.toNat∧c.toNat<=90)):VM c=true:=decide_eq_true h
theorem VY {s:ByteArray}{i:Nat}{c:UInt8}(h:s.data.toList[i]? =some c)(hc:VM c=false):CK s=false:=by
 rw[CK,List.all_eq_false.2 ⟨c,Aan h,by simp[hc]⟩,Bool.false_and]
theorem TO {s:ByteArray}(h:GL (fun c=> !VM c) s.data.toList s.data.toList.length):CK s=(!decide (s=⟨#[]⟩)&&decide (((s.size:Nat):Int)<=32)):=by
 rw[CK,List.all_eq_true.2 (fun c hc=>by
  obtain⟨i,hi,rfl⟩:=AaG hc
  have:=h i _ hi (List.getElem?_eq_getElem hi)
  simpa using this),Bool.true_and,X4]
 rw[AaC]
 simp only[Aao,decide_eq_true_eq,AaO,decide_eq_false_iff_not]
 omega
theorem IP (f:Al)(l:List Al):AX ((f::l).map Al.p)=f.bytes.length+AX (l.map Al.p):=by simp[AX,Al.p]
theorem Pm {rs : List Al} {j : Nat} {f : Al} (h : rs[j]? = some f) : AX (rs.map Al.p) = f.bytes.length + AX ((rs.eraseIdx j).map Al.p) := by
  induction rs generalizing j with
  | nil => simp at h
  | cons x l ih =>
    cases j with
    | zero => simp only [Ab7, Option.some.injEq] at h; subst h; rw [Acn, IP]
    | succ j => simp only [Aco] at h; rw [Ab8, IP, IP, ih h]; omega
theorem Kp {rs:List Al}{j:Nat}{f:Al}(h:rs[j]? =some f):(rs.eraseIdx j).length<rs.length:=by
 have:=(List.getElem?_eq_some_iff.1 h).1
 rw[List.length_eraseIdx,if_pos this];omega
attribute [local irreducible] X
theorem Yb (s:ByteArray)(w:World)(hs:s.size<=4294967295):
  Calls prog 173 #[.string s] w (AN (fun v w'=>v= .bool (CK s)∧Ap w w')):=by
 have hsl:s.data.toList.length=s.size:=Gv s;refine Ac (n:=54) func173 rfl rfl rfl ?_;refine jG ?_;refine jR<|AA.bytes underlying9 underlying98 underlying5 rfl ?_;intro a1 a3 a5 a6 a0 a4;have K0:=(a4:Ap w _);refine jG ?_;refine Ai.loop (ι:=Nat) (fun i ρ' w'=>Holds ρ' [(0,.string s),(6,.slice (some ⟨a1,0,none⟩) s.data.toList.length a3),(7,.int .i64 ((s.data.toList.length:Nat):Int)),(8,.int .i64 ((i:Nat):Int))]∧Ap w w'∧(Av w' (some ⟨a1,0,none⟩) s.data.toList)∧(i<=s.data.toList.length)∧(GL (fun c=> !VM c) s.data.toList i)) (fun i=>s.data.toList.length-i) 0 ?_ ?_
 ·refine⟨⟨rfl,rfl,rfl,rfl,trivial⟩,K0,a0,?_,?_⟩
  ·omega
  ·exact GL.zero _ _
 clear K0;rintro i a7 a8 ⟨a2,K0,a0,hi,hno⟩ ih1;obtain⟨ρ₀,rfl⟩:=a2.ex;clear a2;refine jG ?_;refine jF ?_ ?_
 ·intro hc9
  obtain⟨a9,aa,c,hx,ab,ac⟩:=a0.eo i;refine jG ?_;refine jV (Be rfl rfl rfl) ?_;refine jG ?_;refine jV (Be rfl rfl rfl) ?_;refine jG ?_;refine jW ?_ (hx:=by exact fun hg=>(Ka hg rfl rfl rfl));refine jV (Be rfl rfl rfl) ?_;refine jG ?_;refine jW ?_ (hx:=by exact fun hg=>(Ka hg rfl rfl rfl));refine jV (Be rfl rfl rfl) ?_;refine jG ?_;refine jW ?_ (hx:=by exact fun hg=>(Ka hg rfl rfl rfl));refine jV (Be rfl rfl rfl) ?_;refine jG ?_;refine jF ?_ ?_
  ·intro hc45
   have hok1:VM c=false:=by
    first
    |(refine QI ?_;omega)
    |(cases hq:VM c with
     |false=>rfl
     |true=>exfalso;have hq2:=of_decide_eq_true hq;omega)
   refine jG ?_;refine jJ func173 ?_;exact⟨_,rfl,by rw[VY hx hok1],K0⟩
  ·intro hc45
   have hok1:VM c=true:=by
    first
    |(refine QI ?_;omega)
    |(cases hq:VM c with
     |false=>rfl
     |true=>exfalso;have hq2:=of_decide_eq_true hq;omega)
   refine jG ?_;refine jV (Az (c:=((i+1:Nat):Int)) (Au rfl rfl Zo Zo) rfl) ?_;refine jG ?_;refine ih1 (i+1) _ _ ?_ Zo;refine⟨⟨rfl,rfl,rfl,rfl,trivial⟩,K0,a0,?_,?_⟩
   ·omega
   ·exact hno.step hx (by rw[hok1];rfl)
 ·intro hc9
  refine jG ?_;refine jV (Qy rfl rfl) ?_;refine jG ?_;refine jW ?_ (hx:=by exact fun hg=>(DC underlying9 (BR hg)));refine jG ?_;refine jV (Be rfl rfl rfl) ?_;refine jG ?_;refine jJ func173 ?_;have hil:i=s.data.toList.length:=by omega
  subst hil;exact⟨_,rfl,by rw[TO hno],K0⟩
theorem QJ (d m:Nat)(room:Int)(fs:List Al)(w:World)(hD:Bo w d m room fs):
  Calls prog 54 #[jp d] w (AN (fun v w'=>v= .bool true∧w=w')):=by
 obtain⟨hB,hM,hF,hmd,hfd,hfm,hok⟩:=hD;have hnd:=Bo.names hok;have hlens:=BV.lens hok;have hroom:=hok.room;have hused:=hok.used;have hcnt:=hok.len;rw[Aad]at hcnt;refine Ac (n:=12) func54 rfl rfl rfl ?_;refine jG ?_;refine jV (DN (EC underlying23 rfl rfl) rfl) ?_;refine jG ?_;refine jT<|jO (DN (NE underlying118 rfl rfl) rfl) ?_;refine jV (BU rfl rfl rfl) ?_;refine jG ?_;refine jJ func54 ?_;exact⟨_,rfl,rfl,rfl⟩
theorem Kq (d m:Nat)(room:Int)(fs:List Al)(name:ByteArray)(w:World)(hD:Bo w d m room fs)(hs:name.size<=4294967295):
  Calls prog 109 #[jp d,.string name] w (AN (fun v w'=>Ap w w'∧((CK name=false∧v= .tuple #[.pointer none,.int .i64 6])∨(CK name=true∧(∀f∈fs,f.name≠name)∧v= .tuple #[.pointer none,.int .i64 20])∨(CK name=true∧∃l1 f l2,fs=l1++f::l2∧f.name=name∧v= .tuple #[jp f.blk,.int .i64 0])))):=by
 obtain⟨hB,hM,hF,hmd,hfd,hfm,hok⟩:=hD;have hnd:=Bo.names hok;have hlens:=BV.lens hok;have hroom:=hok.room;have hused:=hok.used;have hcnt:=hok.len;rw[Aad]at hcnt;refine Ac (n:=28) func109 rfl rfl rfl ?_;refine jG ?_;refine jR<|jC (QJ d m room fs _ (⟨hB,hM,hF,hmd,hfd,hfm,hok⟩:Bo _ d m room fs)) ?_;rintro _ _ ⟨rfl,rfl⟩;refine jV (Bn (b:=true) rfl) ?_;refine jG ?_;refine Ai.condF rfl ?_;refine jG ?_;refine jR<|jC (Yb name _ Zo) ?_;rintro _ a1 ⟨rfl,a0⟩;have K0:=(a0:Ap w _);refine jG ?_;replace hB:=hB.ext a0;replace hM:=hM.ext a0;replace hF:=hF.ext a0;refine jF ?_ ?_
 ·intro hc10
  refine jG ?_;refine jK func109 ?_;exact⟨_,rfl,K0,.inl ⟨by simpa using hc10,rfl⟩⟩
 ·intro hc10
  refine El ?_;by_cases hh:∃f∈fs,f.name=name
  ·obtain⟨f,hf,hfn⟩:=hh
   obtain⟨l1,l2,hfs⟩:=AbA hf;refine jG ?_;refine jV (C7 (v':=jp f.blk) (Dd underlying118 underlying9 rfl ty121 rfl rfl hM) (LP hnd hfs hfn)) ?_;refine jV (D9 (Dm underlying121 rfl rfl) rfl) ?_;refine jG ?_;refine Ai.condF rfl ?_;refine jG ?_;refine jV (C7 (v':=jp f.blk) (Dd underlying118 underlying9 rfl ty121 rfl rfl hM) (LP hnd hfs hfn)) ?_;refine jG ?_;refine jK func109 ?_;exact⟨_,rfl,K0,.inr (.inr ⟨by simpa using hc10,l1,f,l2,hfs,hfn,rfl⟩)⟩
  ·have hno:∀f∈fs,f.name≠name:=fun f hf e=>hh ⟨f,hf,e⟩
   refine jG ?_;refine jV (C7 (v':= .pointer none) (Dd underlying118 underlying9 rfl ty121 rfl rfl hM) (Pl hno)) ?_;refine jV (DN (Dm underlying121 rfl rfl) rfl) ?_;refine jG ?_;refine C4 ?_;refine jG ?_;refine jK func109 ?_;exact⟨_,rfl,K0,.inr (.inl ⟨by simpa using hc10,hno,rfl⟩)⟩
theorem XG (d m:Nat)(room:Int)(fs:List Al)(w:World)(hD:Bo w d m room fs):
  Calls prog 157 #[jp d] w (AN (fun v w'=>v= .int .i64 ((AX (fs.map Al.p):Nat):Int)∧Ap w w')):=by
 obtain⟨hB,hM,hF,hmd,hfd,hfm,hok⟩:=hD;have hnd:=Bo.names hok;have hlens:=BV.lens hok;have hroom:=hok.room;have hused:=hok.used;have hcnt:=hok.len;rw[Aad]at hcnt;refine Ac (n:=25) func157 rfl rfl rfl ?_;refine jG ?_;refine jR<|jC (QJ d m room fs _ (⟨hB,hM,hF,hmd,hfd,hfm,hok⟩:Bo _ d m room fs)) ?_;rintro _ _ ⟨rfl,rfl⟩;refine jG ?_;refine C4 ?_;refine jG ?_;refine jR<|AA.rangeMap underlying118 rfl hM ?_;intro a0 ag a1 a6 a2;have ac:=Aw (Bw a1) hB.lt;have ad:=Ah (Bw a1) hM.oL;have ae:=Ah (Bw a1) hF.oL;have af:=Bd (Aac _) (Bw a1);clear a1;have K0:=(a2:Ap w _);refine jG ?_;replace hB:=hB.ext a2;replace hM:=hM.ext a2;replace hF:=hF.ext a2;refine Ai.loop (ι:=Nat) (fun k ρ' w'=>∃rs:List Al,∃la:Option (ByteArray×Value),∃n:Nat,Holds ρ' [(3,.int .i64 ((n:Nat):Int)),(12,jp a0)]∧Ap w w'∧(AB w' d [.map (some m),.int .i64 room] 120)∧(At w' m (BC fs))∧(AV w' fs)∧(B7 w' a0 m (BC rs) la)∧(¬one a0 d)∧(∀q_,one a0 q_->¬one m q_)∧(∀q_,one a0 q_->¬AD fs q_)∧(∀q_,one a0 q_->w.heap.size<=q_)∧(k=rs.length)∧(n+AX (rs.map Al.p)=AX (fs.map Al.p))∧(∀f∈rs,f∈fs)) (fun k=>k) fs.length ?_ ?_
 ·refine⟨fs,none,0,⟨rfl,rfl,trivial⟩,K0,hB,hM,hF,a6,ac,ad,ae,af,?_,?_,?_⟩
  ·rfl
  ·omega
  ·exact fun f h=>h
 clear hB hM hF a6;clear K0;rintro k ah ai ⟨rs,la,n,a7,K0,hB,hM,hF,a3,a8,a9,aa,ab,hk,hn,hsub⟩ ih1;obtain⟨ρ₀,rfl⟩:=a7.ex;clear a7;refine jG ?_;refine jR<|AA.nextMap rfl a3 ?_ ?_
 ·intro h0_18
  replace h0_18:rs=[]:=by simpa[BC]using h0_18
  refine jG ?_;refine Ai.condF rfl ?_;have h0_:=h0_18;refine jG ?_;refine jJ func157 ?_;have hn':n=AX (fs.map Al.p):=by rw[h0_]at hn;simpa[AX]using hn
  exact⟨_,rfl,by rw[hn'],K0⟩
 ·intro jx aj ak al h0_22 a5 a4
  obtain⟨f,hf,rfl,rfl⟩:=NH h0_22;clear h0_22;rw[Ko]at a5;replace a3:=a5;clear a5;refine jG ?_;refine C4 ?_;refine jG ?_;refine jV (MF rfl a3) ?_;have hfm_:f∈fs:=hsub f (Aan hf);have hfl:=hlens f hfm_;replace hF:=hF.kO a4 (Zf aa);have hb:=(hF.all f hfm_).blk;refine jG ?_;refine jV (Az (c:=((n+f.bytes.length:Nat):Int)) (Au rfl rfl Zo Zo) rfl) ?_;clear hb;refine jG ?_;refine ih1 ((rs.eraseIdx jx).length) _ _ ?_ (by rw[hk];exact Kp hf);replace hB:=hB.keep a4 a8;replace hM:=hM.kO a4 (Zf a9);replace K0:=K0.new a4 ab;refine⟨_,_,n+f.bytes.length,⟨rfl,rfl,trivial⟩,K0,hB,hM,hF,a3,a8,a9,aa,ab,?_,?_,?_⟩
  ·rfl
  ·have:=Pm hf;omega
  ·exact fun f h=>hsub f (AbU h)
end Go.Proofs.YtjkaicjmfgekjaaGreatDoor
namespace Go.Proofs.YtjkaicjmfgekjaaGreatDoor
open Go.Proofs.Tryz
attribute [local irreducible] RD RS AA RL RA RT Cz Ai
section
variable {w w':World}{f:Al}{fs fs' l1 l2:List Al}{d m:Nat}{room:Int}{n:ByteArray}{N:Nat}{pl:List PF}
theorem Bh {nm:ByteArray}{b:Nat}{a:Option Addr}{c:Nat}{xs:List UInt8}{s:Nat}:∀q,AD (l1++⟨nm,b,a,c,xs,s⟩::l2) q->q=b∨(own a q∨AD (l1++l2) q):=files_case
theorem IQ {nm:ByteArray}{b:Nat}{a:Option Addr}{c:Nat}{xs:List UInt8}{s:Nat}:∀q,AD (fs++[⟨nm,b,a,c,xs,s⟩]) q->q=b∨(own a q∨AD fs q):=fun q h=>by
 have:=Bh (l2:=[]) q h;rwa[Aaw]at this
theorem AV.snoc (h:E9 w f)(h1:AV w fs)(h2:∀q,AD fs q->¬DG f q):AV w (fs++[f]):=AV.close (l2:=[]) h (by rwa[Aaw]) (by rwa[Aaw])
theorem Er (h:∀q,AD fs' q->q<N->A9 d m fs q):∀q,A9 d m fs' q->q<N->A9 d m fs q:=by
 rintro q (rfl|rfl|h') hl
 ·exact .inl rfl
 ·exact .inr (.inl rfl)
 ·exact h q h' hl
theorem LQ {F F':Nat->Prop}(h:∀q,F' q->q<w.heap.size->F q):AL w F F':=fun q hq=>by
 by_cases hl:q<w.heap.size
 ·exact .inl (h q hq hl)
 ·exact .inr Zo
theorem Yc (h:∀f∈fs,f.name≠n):∀f∈fs.map Al.p,f.name≠n:=fun x hx=>by obtain⟨f,hf,rfl⟩:=List.mem_map.1 hx;exact h f hf
theorem VZ (h:BV room (fs.map Al.p))(hm:CK n=false):∀f∈fs,f.name≠n:=fun f hf e=>by
 have:=h.may f.p (List.mem_map.2 ⟨f,hf,rfl⟩)
 rw[show f.p.name=n from e,hm]at this;cases this
theorem Ib (h:∀f∈fs,f.name≠n):Cs (fs.map Al.p) n=false:=Ph (Yc h)
theorem JJ (e:fs=l1++f::l2)(hf:f.name=n):Cs (fs.map Al.p) n=true:=Bg.2 ⟨f.p,List.mem_map.2 ⟨f,CO e,rfl⟩,hf⟩
theorem Hf (hm:CK n=false):CL pl n=6:=by rw[CL,hm];rfl
theorem Ic (hm:CK n=true)(h:∀f∈fs,f.name≠n):CL (fs.map Al.p) n=20:=by rw[CL,hm,Ib h];rfl
theorem Ie (hm:CK n=true)(e:fs=l1++f::l2)(hf:f.name=n):CL (fs.map Al.p) n=0:=by rw[CL,hm,JJ e hf];rfl
theorem Fa (hn:(fs.map (·.name)).Nodup)(e:fs=l1++f::l2)(hf:f.name=n):Ci (fs.map Al.p) n=some f.p:=by
 subst hf;exact Eo (f:=f.p) (by rw[H8];exact hn) (List.mem_map.2 ⟨f,CO e,rfl⟩)
theorem GW (h:∀f∈fs,f.name≠n):Ci (fs.map Al.p) n=none:=Kk (Yc h)
theorem Pn {u:PF->PF}(hn:(fs.map (·.name)).Nodup)(e:fs=l1++f::l2)(hf:f.name=n):DF (fs.map Al.p) n u=l1.map Al.p++u f.p::l2.map Al.p:=by
 subst e;subst hf
 rw[Aam,Aae]
 exact Kl (f:=f.p) (by rw[<-Aae,<-Aam,H8];exact hn)
theorem Po {u:PF->PF}(h:∀f∈pl,f.name≠n):DF pl n u=pl:=(AaF fun x hx=>if_neg (h x hx)).trans (List.map_id'' (fun _=>rfl) _)
theorem MK (hn:(fs.map (·.name)).Nodup)(e:fs=l1++f::l2)(hf:f.name=n):Bp (fs.map Al.p) n=(l1++l2).map Al.p:=by
 subst e;subst hf
 rw[Aam,Aae,Aam]
 exact Pj (f:=f.p) (by rw[<-Aae,<-Aam,H8];exact hn)
theorem QK (hn:(fs.map (·.name)).Nodup)(e:fs=l1++f::l2)(hf:f.name=n):(l1++⟨f.name,f.blk,f.a,f.cap,f.bytes,f.bytes.length⟩::l2).map Al.p=Cd (fs.map Al.p) n:=by
 rw[Cd,Pn hn e hf,Aam,Aae];rfl
theorem BV.upd {u:PF->PF}(h:BV room pl)(hn:∀f,(u f).name=f.name)(hs:∀f∈pl,(u f).synced<=(u f).bytes.length)(hu:(AX (DF pl n u):Int)<=room):BV room (DF pl n u):=by
 have e:(DF pl n u).map (·.name)=pl.map (·.name):=by
  rw[DF,Aat];apply AaF;intro f _;simp only[Function.comp];split;exact hn f;rfl
 refine⟨by rw[e];exact h.nodup,?_,?_,hu,by rw[DF,Aad];exact h.len,h.room⟩
 ·intro x hx
  have:x.name∈pl.map (·.name):=by rw[<-e];exact List.mem_map.2 ⟨x,hx,rfl⟩
  obtain⟨y,hy,e2⟩:=List.mem_map.1 this
  rw[<-e2];exact h.may y hy
 ·intro x hx
  obtain⟨y,hy,rfl⟩:=List.mem_map.1 hx
  by_cases c:y.name=n
  ·rw[if_pos c];exact hs y hy
  ·rw[if_neg c];exact h.sync y hy
theorem Lt {u:PF->PF}(h:∀f,(u f).bytes.length=f.bytes.length):AX (DF pl n u)=AX pl:=by
 rw[AX,DF,Aat,AX];congr 1;apply AaF;intro f _;simp only[Function.comp];split;exact h f;rfl
theorem BV.syn (h:BV room pl):BV room (Cd pl n):=h.upd (fun _=>rfl) (fun _ _=>Aac _) (by rw[Lt (u:=fun f=>{f with synced:=f.bytes.length}) (fun _=>rfl)];exact h.used)
theorem LR {a b:List PF}(h:a.Sublist b):AX a<=AX b:=by
 induction h with
 |slnil=>exact Aac _
 |cons x _ ih=>rw[AX,AX,Aae,Aa1];rw[AX,AX]at ih;omega
 |cons_cons x _ ih=>rw[AX,AX,Aae,Aa1,Aae,Aa1];rw[AX,AX]at ih;omega
theorem BV.sub {a:List PF}(h:BV room pl)(s:a.Sublist pl):BV room a:=
 ⟨h.nodup.sublist (s.map _),fun f hf=>h.may f (s.subset hf),fun f hf=>h.sync f (s.subset hf),by have:=LR s;have:=h.used;omega,Aaa s.length_le h.len,h.room⟩
theorem BV.rem (h:BV room pl):BV room (Bp pl n):=h.sub AbB
theorem GX (a b:List PF):AX (a++b)=AX a+AX b:=by simp[AX]
theorem ML {b:List UInt8}(hn:(pl.map (·.name)).Nodup):AX (DF pl n (fun f=>{f with bytes:=f.bytes++b}))<=AX pl+b.length:=by
 by_cases hh:∃f∈pl,f.name=n
 ·obtain⟨f,hf,rfl⟩:=hh
  obtain⟨l1,l2,rfl⟩:=AbA hf
  rw[Kl hn]
  simp[AX];omega
 ·rw[Po (fun f hf e=>hh ⟨f,hf,e⟩)];omega
theorem BV.app {b:List UInt8}(h:BV room pl):BV room (Df room pl n b):=by
 unfold Df
 split
 ·rename_i he
  unfold De at he
  split at he
  ·rename_i hm
   split at he
   ·cases he
   ·rename_i hc
    have hu:=h.used
    split
    ·refine h.upd (fun _=>rfl) (fun f hf=>by have:=h.sync f hf;simp;omega) ?_
     have:=ML (n:=n) (b:=b) h.nodup
     omega
    ·rename_i hh
     have hno:∀f∈pl,f.name≠n:=fun f hf e=>hh (Bg.2 ⟨f,hf,e⟩)
     have hh':Cs pl n=false:=by simpa using hh
     refine⟨?_,?_,?_,?_,?_,h.room⟩
     ·rw[Aam,Abd]
      refine⟨h.nodup,by simp,?_⟩
      intro x hx y hy
      obtain⟨f,hf,rfl⟩:=List.mem_map.1 hx
      simp only[Aae,Aau,Aah]at hy
      subst hy;exact hno f hf
     ·intro f hf
      rcases List.mem_append.1 hf with hf|hf
      ·exact h.may f hf
      ·simp only[Aah]at hf;subst hf;exact hm
     ·intro f hf
      rcases List.mem_append.1 hf with hf|hf
      ·exact h.sync f hf
      ·simp only[Aah]at hf;subst hf;exact Aal _
     ·rw[GX];simp only[AX,Aae,Aau,Aa1,List.sum_nil]at*;omega
     ·rw[Aab];simp only[AaS];simp only[hh',true_and]at hc;omega
  ·cases he
 ·exact h
theorem NI {b:List UInt8}(hm:CK n=false):De room pl n b=6:=by rw[De,if_neg (by simp[hm])]
theorem LT {b:List UInt8}(hm:CK n=true)(h:(Cs pl n=false∧64<=pl.length)∨room-(AX pl:Int)<(b.length:Int)):De room pl n b=7:=by rw[De,if_pos hm,if_pos h]
theorem QL {b:List UInt8}(hm:CK n=true)(h:¬((Cs pl n=false∧64<=pl.length)∨room-(AX pl:Int)<(b.length:Int))):De room pl n b=0:=by rw[De,if_pos hm,if_neg h]
theorem MM {b:List UInt8}(h:De room pl n b≠0):Df room pl n b=pl:=by rw[Df,if_neg h]
theorem TP {b:List UInt8}(he:De room (fs.map Al.p) n b=0)(hn:(fs.map (·.name)).Nodup)(e:fs=l1++f::l2)(hf:f.name=n)(a:Option Addr)(c:Nat):
  (l1++⟨f.name,f.blk,a,c,f.bytes++b,f.synced⟩::l2).map Al.p=Df room (fs.map Al.p) n b:=by
 rw[Df,if_pos he,if_pos (JJ e hf),Pn hn e hf,Aam,Aae];rfl
theorem QM {b:List UInt8}(he:De room (fs.map Al.p) n b=0)(h:∀f∈fs,f.name≠n)(x:Nat)(a:Option Addr)(c:Nat):
  (fs++[(⟨n,x,a,c,b,0⟩:Al)]).map Al.p=Df room (fs.map Al.p) n b:=by
 rw[Df,if_pos he,Ib h,Aam];rfl
theorem RQ (nm:ByteArray)(x:Nat)(a a':Option Addr)(c c':Nat)(b b':List UInt8)(s s':Nat):BC (fs++[(⟨nm,x,a,c,b,s⟩:Al)])=BC (fs++[(⟨nm,x,a',c',b',s'⟩:Al)]):=by simp[BC,ent]
theorem If (e:fs=l1++f::l2)(a:Option Addr)(c:Nat)(b:List UInt8)(s:Nat):BC fs=BC (l1++⟨f.name,f.blk,a,c,b,s⟩::l2):=by subst e;simp[BC,ent]
theorem BV.nil (h:BV room pl):BV room []:=h.sub (List.nil_sublist _)
theorem BV.empty (h:0<=room∧room<=16777216):BV room (([]:List Al).map Al.p):=⟨by simp,fun _ h=>absurd h Zs,fun _ h=>absurd h Zs,by simp[AX];exact h.1,by simp,h⟩
theorem LU (hn:(fs.map (·.name)).Nodup)(e:fs=l1++f::l2)(hf:f.name=n):GS (BC fs) n=BC (l1++l2):=by subst e;subst hf;exact TN hn
theorem LV (hn:(fs.map (·.name)).Nodup)(e:fs=l1++f::l2):((l1++l2).map (·.name)).Nodup:=by
 subst e
 exact hn.sublist (((Acp f l2).append_left l1).map _)
theorem NJ {to:ByteArray}(hm:CK n=false):ET pl n to=6:=by rw[ET,if_neg (by simp[hm])]
theorem Hg {to:ByteArray}(hm:CK n=true)(h2:CK to=false):ET pl n to=6:=by rw[ET,if_pos hm,if_neg (by simp[h2])]
theorem QN {to:ByteArray}(hm:CK n=true)(h2:CK to=true)(h:∀f∈fs,f.name≠n):ET (fs.map Al.p) n to=20:=by rw[ET,if_pos hm,if_pos h2,Ib h];rfl
theorem QO {to:ByteArray}(hm:CK n=true)(h2:CK to=true)(e:fs=l1++f::l2)(hf:f.name=n):ET (fs.map Al.p) n to=0:=by rw[ET,if_pos hm,if_pos h2,JJ e hf];rfl
theorem JK {to:ByteArray}(h:ET pl n to≠0):Hy pl n to=pl:=by rw[Hy,if_neg h]
def renFs :List Al->Al->List Al
 |[],g=>[g]
 |x::l,g=>if x.name=g.name then g::l else x::renFs l g
theorem IR {l : List Al} {g x : Al} (h : x ∈ renFs l g) : x = g ∨ x ∈ l := by
  induction l with
  | nil => simp [renFs] at h; exact .inl h
  | cons y l ih =>
    rw [renFs] at h
    split at h
    · rcases List.mem_cons.1 h with h | h
      · exact .inl h
      · exact .inr (AaB _ h)
    · rcases List.mem_cons.1 h with h | h
      · exact .inr (by rw [h]; simp)
      · rcases ih h with h | h
        · exact .inl h
        · exact .inr (AaB _ h)
theorem TQ {nm : ByteArray} (h : E9 w f ∧ AV w (l1 ++ l2) ∧ ∀ q, AD (l1 ++ l2) q -> ¬ DG f q) : AV w (renFs (l1 ++ l2) ⟨nm, f.blk, f.a, f.cap, f.bytes, f.synced⟩) := by
  obtain ⟨h1, h2, h3⟩ := h
  generalize l1 ++ l2 = l at *
  refine ⟨fun x hx => (IR hx).elim (fun e => by rw [e]; exact ⟨h1.blk, h1.own, h1.apart⟩) (fun h => h2.all x h), ?_⟩
  have key : ∀ (l : List Al), l.Pairwise (fun f g => ∀ q, DG f q -> ¬ DG g q) -> (∀ x ∈ l, ∀ q, DG x q -> ¬ DG f q) -> (renFs l ⟨nm, f.blk, f.a, f.cap, f.bytes, f.synced⟩).Pairwise (fun f g => ∀ q, DG f q -> ¬ DG g q) := by
    intro l
    induction l with
    | nil => intro _ _; simp [renFs]
    | cons y l ih =>
      intro hp hx
      obtain ⟨hp1, hp2⟩ := List.pairwise_cons.1 hp
      rw [renFs]
      split
      · exact List.pairwise_cons.2 ⟨fun z hz q hq hz2 => hx z (AaB _ hz) q hz2 hq, hp2⟩
      · refine List.pairwise_cons.2 ⟨fun z hz q hq hz2 => ?_, ih hp2 (fun x h => hx x (AaB _ h))⟩
        rcases IR hz with rfl | hz
        · exact hx y Zs q hq hz2
        · exact hp1 z hz q hq hz2
  exact key l h2.apart (fun x hx q hq => h3 q ⟨x, hx, hq⟩)
theorem IS {nm:ByteArray}(e:fs=l1++f::l2):∀q,AD (renFs (l1++l2) ⟨nm,f.blk,f.a,f.cap,f.bytes,f.synced⟩) q->AD fs q:=fun q ⟨x,hx,hq⟩=>by
 subst e
 rcases IR hx with rfl|hx
 ·exact Ep.2 (.inl hq)
 ·exact Ep.2 (.inr ⟨x,hx,hq⟩)
theorem GY {g : Al} : ∀ {l : List Al}, (l.map (·.name)).Nodup -> (∀ x ∈ l, x.name ≠ g.name) ∧ renFs l g = l ++ [g] ∨ ∃ a x b, l = a ++ x :: b ∧ x.name = g.name ∧ renFs l g = a ++ g :: b
  | [], _ => .inl ⟨fun _ h => by simp at h, rfl⟩
  | y :: l, hn => by
    simp only [Aae, AaR] at hn
    rw [renFs]
    by_cases c : y.name = g.name
    · rw [if_pos c]; exact .inr ⟨[], y, l, rfl, c, rfl⟩
    · rw [if_neg c]
      rcases GY (g := g) hn.2 with ⟨h1, h2⟩ | ⟨a, x, b, h1, h2, h3⟩
      · refine .inl ⟨fun x hx => ?_, by rw [h2]; rfl⟩
        rcases List.mem_cons.1 hx with rfl | hx
        · exact c
        · exact h1 x hx
      · exact .inr ⟨y :: a, x, b, by rw [h1]; rfl, h2, by rw [h3]; rfl⟩
theorem RR {g:Al}{l:List Al}(hn:(l.map (·.name)).Nodup):CX (BC l) g.name (jp g.blk)=BC (renFs l g):=by
 rcases GY (g:=g) hn with⟨h1,h2⟩|⟨a,x,b,h1,h2,h3⟩
 ·rw[h2];exact Ia h1 g.blk g.a g.cap g.bytes g.synced
 ·rw[h3];subst h1;rw[<-h2];exact MJ hn g.blk g h2.symm rfl
theorem Yd {to:ByteArray}(hok:BV room (fs.map Al.p))(hn:(fs.map (·.name)).Nodup)(e:fs=l1++f::l2)(hf:f.name=n)(hm:CK n=true)(h2:CK to=true):
  ((renFs (l1++l2) ⟨to,f.blk,f.a,f.cap,f.bytes,f.synced⟩).map Al.p).Perm (Hy (fs.map Al.p) n to)∧BV room ((renFs (l1++l2) ⟨to,f.blk,f.a,f.cap,f.bytes,f.synced⟩).map Al.p):=by
 have hp:((renFs (l1++l2) ⟨to,f.blk,f.a,f.cap,f.bytes,f.synced⟩).map Al.p).Perm (Bp ((l1++l2).map Al.p) to++[⟨to,f.bytes,f.synced⟩]):=by
  have hs:=LV hn e
  generalize l1++l2=l at*
  rcases GY (g:=⟨to,f.blk,f.a,f.cap,f.bytes,f.synced⟩) hs with⟨h1,h2⟩|⟨a,x,b,h1,h2,h3⟩
  ·rw[h2,IM (Yc h1),Aam];exact List.Perm.refl _
  ·subst h1
   rw[h3,MK hs rfl h2,Aam,Aae,Aam]
   exact(List.perm_middle).trans (List.perm_append_singleton _ _).symm
 have he:Hy (fs.map Al.p) n to=Bp ((l1++l2).map Al.p) to++[⟨to,f.bytes,f.synced⟩]:=by
  rw[Hy,if_pos (QO hm h2 e hf),Fa hn e hf,MK hn e hf];rfl
 refine⟨by rw[he];exact hp,BV.perm ?_ hp.symm⟩
 have hr:BV room (Bp ((l1++l2).map Al.p) to):=BV.rem (hok.sub (by subst e;exact(((Acp f l2).append_left l1).map _)))
 have hu:AX (Bp ((l1++l2).map Al.p) to)+f.bytes.length<=AX (fs.map Al.p)∧(Bp ((l1++l2).map Al.p) to).length+1<=fs.length:=by
  subst e
  have h1:AX (Bp ((l1++l2).map Al.p) to)<=AX ((l1++l2).map Al.p):=LR AbB
  have h2:AX ((l1++f::l2).map Al.p)=f.bytes.length+AX ((l1++l2).map Al.p):=by simp[AX,Al.p];omega
  have h3:(Bp ((l1++l2).map Al.p) to).length<=((l1++l2).map Al.p).length:=AaT _ _
  simp only[Aad,Aab,Aaj]at h3⊢
  omega
 have hus:=hok.used
 have hle:=hok.len
 rw[Aad]at hle
 have hfl:=BV.lens hok f (CO e)
 refine⟨?_,?_,?_,?_,?_,hok.room⟩
 ·rw[Aam,Abd]
  refine⟨hr.nodup,by simp,?_⟩
  intro x hx y hy
  obtain⟨z,hz,rfl⟩:=List.mem_map.1 hx
  simp only[Aae,Aau,Aah]at hy
  subst hy
  have:=(List.mem_filter.1 hz).2
  simpa using this
 ·intro x hx
  rcases List.mem_append.1 hx with hx|hx
  ·exact hr.may x hx
  ·simp only[Aah]at hx;subst hx;exact h2
 ·intro x hx
  rcases List.mem_append.1 hx with hx|hx
  ·exact hr.sync x hx
  ·simp only[Aah]at hx;subst hx;exact hfl.1
 ·rw[GX];simp only[AX,Aae,Aau,Aa1,List.sum_nil]at*;omega
 ·rw[Aab];simp only[AaS];omega
end
attribute [local irreducible] X
theorem Kr (a:Option Addr)(xs:List UInt8)(c:Nat)(w:World)(hs:Av w a xs)(hl:xs.length<=4294967295):
  Calls prog 56 #[.slice a xs.length c] w (AN (fun v w'=>∃a' c',v= .slice a' xs.length c'∧Af w' 5 a' c' xs∧(∀b,own a' b->w.heap.size<=b)∧Ap w w')):=by
 refine Ac (n:=8) func56 rfl rfl rfl ?_;refine jG ?_;refine jV (JI underlying98 rfl rfl) ?_;refine jG ?_;refine Ai.cond rfl (fun hc4=> ?_) (fun hc4=> ?_)
 ·skip
  refine jG ?_;refine jJ func56 ?_;have hx:=hs.nil_of hc4;subst hx;exact⟨_,rfl,none,0,rfl,Af.nil _ _,fun b h=>absurd h (Ae b),(Ad.refl _ w)⟩
 ·skip
  refine jG ?_;refine jR<|AA.buildSlice ([]:List UInt8) underlying98 ty5 rfl rfl Ze ?_;intro ab ac a0 a4 a5;have a1:=Bd (Aac _) (CV a0);clear a0;have K0:=(a5:Ap w _);refine jG ?_;refine jR<|AA.append (xs:=([]:List UInt8)) (ys:=xs) underlying98 ty5 rfl rfl rfl a4 (hs.ext K0) Zr Zd ?_;intro a2 a6 ad a7 a8 a3 a9;have aa:∀q_,own a2 q_->w.heap.size<=q_:=a3.ge a1 K0.size;clear a3;clear a9;refine jG ?_;refine jJ func56 ?_;replace K0:=K0.new a8 a1;exact⟨_,rfl,a2,a6,by rw[Aaz],by simpa using a7,aa,K0⟩
theorem ZN (d m:Nat)(room:Int)(fs:List Al)(name:ByteArray)(w:World)(hD:Bo w d m room fs)(hs:name.size<=4294967295):
  Calls prog 176 #[jp d,.string name] w (AN (fun v w'=>∃a' c' bs,v= .tuple #[.slice a' bs.length c',.int .i64 (CL (fs.map Al.p) name)]∧Af w' 5 a' c' bs∧(∀b,own a' b->w.heap.size<=b)∧bs=((Ci (fs.map Al.p) name).map (·.bytes)).getD []∧Ap w w')):=by
 obtain⟨hB,hM,hF,hmd,hfd,hfm,hok⟩:=hD;have hnd:=Bo.names hok;have hlens:=BV.lens hok;have hroom:=hok.room;have hused:=hok.used;have hcnt:=hok.len;rw[Aad]at hcnt;refine Ac (n:=22) func176 rfl rfl rfl ?_;refine jG ?_;refine jR<|jC (Kq d m room fs name _ (⟨hB,hM,hF,hmd,hfd,hfm,hok⟩:Bo _ d m room fs) Zo) ?_;rintro _ a7 ⟨a0,(⟨hmay,rfl⟩|⟨hmay,hno,rfl⟩|⟨hmay,l1,f,l2,hfs,hfn,rfl⟩)⟩
 ·replace hB:=hB.ext a0
  have K0:=(a0:Ap w _);refine jG ?_;refine C4 ?_;refine jG ?_;refine jK func176 ?_;replace hM:=hM.ext a0;replace hF:=hF.ext a0;exact⟨_,rfl,none,0,[],by rw[Hf hmay];rfl,Af.nil _ _,fun b h=>absurd h (Ae b),by rw[GW (VZ hok hmay)];rfl,K0⟩
 ·replace hB:=hB.ext a0
  have K0:=(a0:Ap w _);refine jG ?_;refine C4 ?_;refine jG ?_;refine jK func176 ?_;replace hM:=hM.ext a0;replace hF:=hF.ext a0;exact⟨_,rfl,none,0,[],by rw[Ic hmay hno];rfl,Af.nil _ _,fun b h=>absurd h (Ae b),by rw[GW hno];rfl,K0⟩
 ·replace hB:=hB.ext a0
  have K0:=(a0:Ap w _);have hfl:=hlens f (CO hfs);refine jG ?_;refine Ai.condF rfl ?_;replace hF:=hF.ext a0;have hfx:=hF.all f (CO hfs);have hb:=hfx.blk;have hsl:=hfx.own.sl;refine jG ?_;refine jR<|jC (Kr _ _ _ _ hsl Zo) ?_;rintro _ a8 ⟨a2,a3,rfl,a4,a1,a5⟩;have a6:=Bd K0.size a1;clear a1;refine jG ?_;refine jK func176 ?_;replace K0:=K0.ext a5;exact⟨_,rfl,a2,a3,f.bytes,by rw[Ie hmay hfs hfn],a4,a6,by rw[Fa hnd hfs hfn];rfl,K0⟩
theorem ZO (d m:Nat)(room:Int)(fs:List Al)(name:ByteArray)(w:World)(hD:Bo w d m room fs)(hs:name.size<=4294967295):
  Calls prog 58 #[jp d,.string name] w (AN (fun v w'=>v= .tuple #[.int .i64 ((((Ci (fs.map Al.p) name).map (·.bytes.length)).getD 0:Nat):Int),.int .i64 ((((Ci (fs.map Al.p) name).map (·.synced)).getD 0:Nat):Int),.int .i64 (CL (fs.map Al.p) name)]∧Ap w w')):=by
 obtain⟨hB,hM,hF,hmd,hfd,hfm,hok⟩:=hD;have hnd:=Bo.names hok;have hlens:=BV.lens hok;have hroom:=hok.room;have hused:=hok.used;have hcnt:=hok.len;rw[Aad]at hcnt;refine Ac (n:=26) func58 rfl rfl rfl ?_;refine jG ?_;refine jR<|jC (Kq d m room fs name _ (⟨hB,hM,hF,hmd,hfd,hfm,hok⟩:Bo _ d m room fs) Zo) ?_;rintro _ a2 ⟨a0,(⟨hmay,rfl⟩|⟨hmay,hno,rfl⟩|⟨hmay,l1,f,l2,hfs,hfn,rfl⟩)⟩
 ·replace hB:=hB.ext a0
  have K0:=(a0:Ap w _);refine jG ?_;refine C4 ?_;refine jG ?_;refine Ai.ret3 (v:= .int .i64 0) (x:= .int .i64 0) (y:= .int .i64 6) func58 rfl rfl rfl rfl ?_;replace hM:=hM.ext a0;replace hF:=hF.ext a0;exact⟨_,rfl,by rw[Hf hmay,GW (VZ hok hmay)];rfl,K0⟩
 ·replace hB:=hB.ext a0
  have K0:=(a0:Ap w _);refine jG ?_;refine C4 ?_;refine jG ?_;refine Ai.ret3 (v:= .int .i64 0) (x:= .int .i64 0) (y:= .int .i64 20) func58 rfl rfl rfl rfl ?_;replace hM:=hM.ext a0;replace hF:=hF.ext a0;exact⟨_,rfl,by rw[Ic hmay hno,GW hno];rfl,K0⟩
 ·replace hB:=hB.ext a0
  have K0:=(a0:Ap w _);have hfl:=hlens f (CO hfs);refine jG ?_;refine Ai.condF rfl ?_;refine jG ?_;replace hF:=hF.ext a0;have hfx:=hF.all f (CO hfs);have hb:=hfx.blk;have hsl:=hfx.own.sl;refine Ai.drawR ?_;intro a3 a1;replace hb:=hb.ext a1;refine jG ?_;refine Ai.ret3 (v:= .int .i64 ((f.bytes.length:Nat):Int)) (x:= .int .i64 ((f.synced:Nat):Int)) (y:= .int .i64 0) func58 rfl rfl rfl rfl ?_;replace K0:=K0.ext a1;exact⟨_,rfl,by rw[Ie hmay hfs hfn,Fa hnd hfs hfn];rfl,K0⟩
theorem ZP (d m:Nat)(room:Int)(fs:List Al)(name:ByteArray)(w:World)(hD:Bo w d m room fs)(hs:name.size<=4294967295):
  Calls prog 93 #[jp d,.string name] w (AN (fun v w'=>∃fs',v= .int .i64 (CL (fs.map Al.p) name)∧Bo w' d m room fs'∧fs'.map Al.p=Cd (fs.map Al.p) name∧(∀q,A9 d m fs' q->q<w.heap.size->A9 d m fs q)∧Ad (A9 d m fs) w w')):=by
 obtain⟨hB,hM,hF,hmd,hfd,hfm,hok⟩:=hD;have hnd:=Bo.names hok;have hlens:=BV.lens hok;have hroom:=hok.room;have hused:=hok.used;have hcnt:=hok.len;rw[Aad]at hcnt;refine Ac (n:=24) func93 rfl rfl rfl ?_;refine jG ?_;refine jR<|jC (Kq d m room fs name _ (⟨hB,hM,hF,hmd,hfd,hfm,hok⟩:Bo _ d m room fs) Zo) ?_;rintro _ ac ⟨a0,(⟨hmay,rfl⟩|⟨hmay,hno,rfl⟩|⟨hmay,l1,f,l2,hfs,hfn,rfl⟩)⟩
 ·replace hB:=hB.ext a0
  have K0:=(a0:Ap w _).to (S:=(A9 d m fs));refine jG ?_;refine Ai.condF rfl ?_;refine jG ?_;refine jJ func93 ?_;replace hM:=hM.ext a0;replace hF:=hF.ext a0;exact⟨_,rfl,fs,by rw[Hf hmay],⟨hB,hM,hF,hmd,hfd,hfm,hok⟩,by rw[Cd,Po (Yc (VZ hok hmay))],fun _ h _=>h,K0⟩
 ·replace hB:=hB.ext a0
  have K0:=(a0:Ap w _).to (S:=(A9 d m fs));refine jG ?_;refine Ai.condF rfl ?_;refine jG ?_;refine jJ func93 ?_;replace hM:=hM.ext a0;replace hF:=hF.ext a0;exact⟨_,rfl,fs,by rw[Ic hmay hno],⟨hB,hM,hF,hmd,hfd,hfm,hok⟩,by rw[Cd,Po (Yc hno)],fun _ h _=>h,K0⟩
 ·replace hB:=hB.ext a0
  have K0:=(a0:Ap w _).to (S:=(A9 d m fs));have hfl:=hlens f (CO hfs);refine jG ?_;refine C4 ?_;replace hF:=hF.ext a0;obtain⟨hfa,hR,hRf⟩:=hF.openE hfs;obtain⟨hb,ho,hoa⟩:=hfa;have ad:f.blk≠d:=fun e_=>hfd (by first|(rw[<-e_];exact(By hfs))|rw[<-e_]);have a2:¬one m f.blk:=fun h_=>hfm _ (By hfs) h_;have a3:f.blk<w.heap.size->(A9 d m fs) f.blk:=fun hl_=>(fun q_ h_ _=>Or.inr (Or.inr h_)) _ (By hfs) hl_;have a5:¬own f.a d:=fun h_=>hfd ((DP hfs) _ h_);have a6:∀q_,own f.a q_->¬one m q_:=fun q_ h_=>hfm q_ ((DP hfs) q_ h_);have a7:¬AD (l1++l2) d:=fun h_=>hfd ((Bk hfs) _ h_);have a8:∀q_,AD (l1++l2) q_->¬one m q_:=fun q_ h_=>hfm q_ ((Bk hfs) q_ h_);clear hF;refine jG ?_;refine jR<|jS hb ?_;intro a4 hb a1;replace K0:=K0.trans a1 (fun x hlt hx=>by simp only[one]at hx;subst hx;exact a3 hlt);refine jG ?_;refine jJ func93 ?_;replace ho:=ho.kO a1 (Aa hoa);replace hR:=hR.kO a1 (Zx (fun h_=>hRf _ h_ (Or.inl rfl)));have hF':AV a4 (l1++(⟨f.name,f.blk,f.a,f.cap,f.bytes,f.bytes.length⟩:Al)::l2):=AV.close ⟨hb,ho,hoa⟩ hR (fun q_ h1 h2=>h2.elim (fun e_=>(fun h_=>hRf _ h_ (Or.inl rfl)) (show AD (l1++l2) f.blk from(show q_=f.blk from e_)▸h1)) (fun y_=>(fun q_ h1 h2=>hRf q_ h1 (Or.inr h2)) q_ h1 y_));have a9:¬AD (l1++(⟨f.name,f.blk,f.a,f.cap,f.bytes,f.bytes.length⟩:Al)::l2) d:=fun x_=>(Bh _ x_).elim (fun e_=>absurd e_ Zo) (fun y_=>y_.elim a5 (fun y_=>a7 y_));have aa:∀q_,AD (l1++(⟨f.name,f.blk,f.a,f.cap,f.bytes,f.bytes.length⟩:Al)::l2) q_->¬one m q_:=fun q_ x_ z_=>(Bh _ x_).elim (fun e_=>a2 (show one m f.blk from e_▸z_)) (fun y_=>y_.elim (fun y_=>a6 q_ y_ z_) (fun y_=>(fun y_=>a8 q_ y_ z_) y_));have ab:∀q_,AD (l1++(⟨f.name,f.blk,f.a,f.cap,f.bytes,f.bytes.length⟩:Al)::l2) q_->q_<w.heap.size->(A9 d m fs) q_:=fun q_ x_ hl_=>(Bh _ x_).elim (fun e_=>e_▸a3 (e_▸hl_)) (fun y_=>y_.elim (fun y_=>(fun q_ h_ hl_=>(fun q_ h_ _=>Or.inr (Or.inr h_)) q_ ((DP hfs) q_ h_) hl_) q_ y_ hl_) (fun y_=>(fun y_=>(fun q_ h_ hl_=>(fun q_ h_ _=>Or.inr (Or.inr h_)) q_ ((Bk hfs) q_ h_) hl_) q_ y_ hl_) y_));replace hM:=(hM.ext a0).kO a1 (Aa a2);have hme:At a4 m (BC (l1++(⟨f.name,f.blk,f.a,f.cap,f.bytes,f.bytes.length⟩:Al)::l2)):=by first|exact hM|(have h_:=hM;rw[If hfs]at h_;exact h_)
  replace hB:=hB.kp a1;exact⟨_,rfl,(l1++(⟨f.name,f.blk,f.a,f.cap,f.bytes,f.bytes.length⟩:Al)::l2),by rw[Ie hmay hfs hfn],⟨hB,hme,hF',hmd,a9,aa,by rw[QK hnd hfs hfn];exact hok.syn⟩,QK hnd hfs hfn,Er ab,K0⟩
theorem append_ (d m:Nat)(room:Int)(fs:List Al)(name:ByteArray)(a:Option Addr)(b:List UInt8)(c:Nat)(w:World)(hD:Bo w d m room fs)(hs:name.size<=4294967295)(hsl:Av w a b)(hdis:∀x,a=some x->b≠ []->¬A9 d m fs x.block)(hbl:b.length<=4294967295):
  Calls prog 95 #[jp d,.string name,.slice a b.length c] w (AN (fun v w'=>∃fs',v= .int .i64 (De room (fs.map Al.p) name b)∧Bo w' d m room fs'∧fs'.map Al.p=Df room (fs.map Al.p) name b∧(∀q,A9 d m fs' q->q<w.heap.size->A9 d m fs q)∧Ad (A9 d m fs) w w')):=by
 obtain⟨hB,hM,hF,hmd,hfd,hfm,hok⟩:=hD;have hnd:=Bo.names hok;have hlens:=BV.lens hok;have hroom:=hok.room;have hused:=hok.used;have hcnt:=hok.len;rw[Aad]at hcnt;have hel:(BC fs).length=fs.length:=Aad ..;refine Ac (n:=63) func95 rfl rfl rfl ?_;refine jG ?_;refine jR<|jC (Kq d m room fs name _ (⟨hB,hM,hF,hmd,hfd,hfm,hok⟩:Bo _ d m room fs) Zo) ?_;rintro _ aT ⟨a1,(⟨hmay,rfl⟩|⟨hmay,hno,rfl⟩|⟨hmay,l1,f,l2,hfs,hfn,rfl⟩)⟩
 ·replace hB:=hB.ext a1
  have K0:=(a1:Ap w _).to (S:=(A9 d m fs));refine jG ?_;refine jV (BU rfl rfl rfl) ?_;refine jG ?_;refine C4 ?_;refine jG ?_;refine jJ func95 ?_;replace hM:=hM.ext a1;replace hF:=hF.ext a1;exact⟨_,rfl,fs,by rw[NI hmay],⟨hB,hM,hF,hmd,hfd,hfm,hok⟩,by rw[MM (by rw[NI hmay];decide)],fun _ h _=>h,K0⟩
 ·replace hB:=hB.ext a1
  have K0:=(a1:Ap w _).to (S:=(A9 d m fs));refine jG ?_;refine jV (BU rfl rfl rfl) ?_;refine jG ?_;refine Ai.condF rfl ?_;refine jG ?_;refine Ai.drawS [] [0,1,2,3,4,5,1006,1007,8,9,10,11,12,13,14,15,1016,17,2018,19,20,21] ?_;intro aU ae;replace hM:=(hM.ext a1).ext ae;replace hB:=hB.ext ae;refine⟨fun w'=>AB w' d [.map (some m),.int .i64 room] 120∧At w' m (BC fs)∧True,⟨hB,hM,trivial⟩,?_⟩;refine jG ?_;refine jP ?_ (hx:=by exact fun _=>(DN (Dm underlying121 rfl rfl) rfl));refine jG ?_;refine jI ?_ (hx:=by exact(fun hg=>by rintro _ ⟨hB,hM,-⟩;exact(ND underlying118 rfl hM)));refine jG ?_;refine jP ?_ (hx:=by exact fun _=>(BU rfl rfl rfl));refine jG ?_;replace hF:=(hF.ext a1).ext ae;refine jZ (fun hg=>(XG d m room fs _ (⟨hB,hM,hF,hmd,hfd,hfm,hok⟩:Bo _ d m room fs))) ?_;intro aV af;replace hB:=hB.ext af;replace hM:=hM.ext af;refine jG ?_;refine jQ ?_ (hx:=by exact fun _ hg=>(BT (BR hg) (BR hg) Zo Zo));refine jG ?_;refine jP ?_ (hx:=by exact fun _=>(D8 rfl rfl rfl));refine jG ?_;replace K0:=(K0.ext ae).ext af;replace hF:=hF.ext af;refine jF ?_ ?_
  ·intro hc43
   refine jG ?_;refine jJ func95 ?_;have he7:De room (fs.map Al.p) name b=7:=LT hmay (by first|exact .inr hc43|(rcases hc43 with h|h;exact .inl ⟨Ib hno,by rw[Aad];omega⟩;exact .inr h));exact⟨_,rfl,fs,by rw[he7],⟨hB,hM,hF,hmd,hfd,hfm,hok⟩,by rw[MM (by rw[he7];decide)],fun _ h _=>h,K0⟩
  ·intro hc43
   have he0:De room (fs.map Al.p) name b=0:=QL hmay (by rintro(⟨h1,h2⟩|h1);rw[Aad]at h2;omega;omega);refine jG ?_;refine jV (DN (Dm underlying121 rfl rfl) rfl) ?_;refine jG ?_;refine C4 ?_;refine jG ?_;refine jV (AI (cells:=#[.slice none 0 0,.int .i64 0]) Zk) ?_;refine jR<|jB ?_;intro a0 aW a9 a4 ag;have aX:=Ak hB.lt a9;have am:=An hM.oL a9;have ao:=An hF.oL a9;have:=Aaa K0.size a9;clear a9;replace hB:=hB.ext ag;refine jG ?_;replace hM:=hM.ext ag;refine jR<|AA.mapUpdate (v:=jp a0) underlying118 underlying9 rfl rfl rfl rfl hM ?_;intro ap ah ai;replace ah:At ap m (BC (fs++[⟨name,a0,none,0,[],0⟩])):=(Ia hno a0 none 0 [] 0▸ah);replace K0:=K0.ext ag;replace K0:=K0.trans ai (fun x hlt hx=>(fun q_ h_ _=>Or.inr (Or.inl h_)) x hx hlt);replace hM:=ah;clear ah;replace a4:=a4.keep ai am;refine jG ?_;have aA:=Af.nil (α:=UInt8) ap 5;refine jR<|AA.append (xs:=([]:List UInt8)) (ys:=b) underlying98 ty5 rfl rfl rfl aA (hsl.keepN K0 hdis) Zr Zd ?_;intro a2 a5 aY aj aa a6 aB;replace hB:=hB.keep ai hmd;have aC:¬own a2 d:=a6.not (Ae d) hB.lt;have aD:∀q_,own a2 q_->¬one m q_:=a6.apart (fun q_ h1 _=>Ae q_ h1) hM.oL;replace hF:=(hF.ext ag).kO ai hfm;have aE:∀q_,own a2 q_->¬AD fs q_:=a6.apart (fun q_ h1 _=>Ae q_ h1) hF.oL;have aq:¬own a2 a0:=a6.not (Ae a0) a4.lt;have aF:∀q_,own a2 q_->q_<w.heap.size->(A9 d m fs) q_:=a6.inS (fun q_ h1 _=>absurd h1 (Ae q_)) K0.size;replace K0:=K0.trans aa (fun x hlt hx=>(fun q_ h1 _=>absurd h1 (Ae q_)) x hx hlt);clear a6;clear aB;refine jG ?_;replace a4:=a4.keep aa (Ae a0);refine jR<|jS a4 ?_;intro ar a4 ab;replace K0:=K0.n1 ab;refine jG ?_;refine jJ func95 ?_;replace aj:=aj.kO ab (Aa aq);simp only[Aaz]at a4 aj;replace hF:=(hF.kO aa (fun q_ h1 h2=>(fun q_ h1 _=>Ae q_ h1) q_ h2 h1)).kO ab (Aa ao);have hF':AV ar (fs++[(⟨name,a0,a2,a5,b,0⟩:Al)]):=AV.snoc ⟨a4,aj,aq⟩ hF (fun q_ h1 h2=>h2.elim (fun e_=>ao (show AD fs a0 from(show q_=a0 from e_)▸h1)) (fun y_=>(Zf aE) q_ h1 y_));have aG:¬AD (fs++[(⟨name,a0,a2,a5,b,0⟩:Al)]) d:=fun x_=>(IQ _ x_).elim (fun e_=>absurd e_ Zo) (fun y_=>y_.elim aC (fun y_=>hfd y_));have aH:∀q_,AD (fs++[(⟨name,a0,a2,a5,b,0⟩:Al)]) q_->¬one m q_:=fun q_ x_ z_=>(IQ _ x_).elim (fun e_=>am (show one m a0 from e_▸z_)) (fun y_=>y_.elim (fun y_=>aD q_ y_ z_) (fun y_=>(fun y_=>hfm q_ y_ z_) y_));have aI:∀q_,AD (fs++[(⟨name,a0,a2,a5,b,0⟩:Al)]) q_->q_<w.heap.size->(A9 d m fs) q_:=fun q_ x_ hl_=>(IQ _ x_).elim (fun e_=>absurd hl_ Zo) (fun y_=>y_.elim (fun y_=>aF q_ y_ hl_) (fun y_=>(fun y_=>(fun q_ h_ _=>Or.inr (Or.inr h_)) q_ y_ hl_) y_));replace hM:=(hM.kO aa (fun q_ h1 h2=>(fun q_ h1 _=>Ae q_ h1) q_ h2 h1)).kO ab (Aa am);have hme:At ar m (BC (fs++[(⟨name,a0,a2,a5,b,0⟩:Al)])):=by first|exact hM|(have h_:=hM;rw[RQ name a0 none a2 0 a5 [] b 0 0]at h_;exact h_)
   replace hB:=(hB.keep aa (Ae d)).kp ab;exact⟨_,rfl,(fs++[(⟨name,a0,a2,a5,b,0⟩:Al)]),by rw[he0],⟨hB,hme,hF',hmd,aG,aH,by rw[QM he0 hno _ _ _];exact hok.app⟩,QM he0 hno _ _ _,Er aI,K0⟩
 ·replace hB:=hB.ext a1
  have K0:=(a1:Ap w _).to (S:=(A9 d m fs));have hfl:=hlens f (CO hfs);refine jG ?_;refine jV (Be (b:=false) (e:=false) rfl rfl rfl) ?_;refine jG ?_;refine Ai.condF rfl ?_;refine jG ?_;refine Ai.drawS [] [0,1,2,3,4,5,6,7,8,9,10,11,12,13,14,15,1016,17,2018,19,20,21] ?_;intro aZ ak;replace hB:=hB.ext ak;refine jM (jb hB Jn) ?_;refine jG ?_;refine jP ?_ (hx:=by exact fun _=>(D9 (Dm underlying121 rfl rfl) rfl));refine jG ?_;refine jP ?_ (hx:=by exact fun _=>(Be (b:=false) (e:=false) rfl rfl rfl));refine jG ?_;replace hM:=(hM.ext a1).ext ak;replace hF:=(hF.ext a1).ext ak;refine jX rfl<|jC (XG d m room fs _ (⟨hB,hM,hF,hmd,hfd,hfm,hok⟩:Bo _ d m room fs)) ?_;rintro _ b0 ⟨rfl,al⟩;replace hB:=hB.ext al;refine jG ?_;refine jQ ?_ (hx:=by exact fun _ hg=>(BT rfl rfl Zo Zo));refine jG ?_;refine jP ?_ (hx:=by exact fun _=>(E6 rfl rfl rfl));refine jG ?_;replace K0:=(K0.ext ak).ext al;replace hM:=hM.ext al;replace hF:=hF.ext al;refine jF ?_ ?_
  ·intro hc43
   refine jG ?_;refine jJ func95 ?_;have he7:De room (fs.map Al.p) name b=7:=LT hmay (by first|exact .inr hc43|(rcases hc43 with h|h;exact .inl ⟨Ib hno,by rw[Aad];omega⟩;exact .inr h));exact⟨_,rfl,fs,by rw[he7],⟨hB,hM,hF,hmd,hfd,hfm,hok⟩,by rw[MM (by rw[he7];decide)],fun _ h _=>h,K0⟩
  ·intro hc43
   have he0:De room (fs.map Al.p) name b=0:=QL hmay (by rintro(⟨h1,h2⟩|h1);rw[JJ hfs hfn]at h1;cases h1;omega);refine jG ?_;refine jV (D9 (Dm underlying121 rfl rfl) rfl) ?_;refine jG ?_;refine Ai.condF rfl ?_;obtain⟨hfa,hR,hRf⟩:=hF.openE hfs;obtain⟨hb,ho,hoa⟩:=hfa;have b1:f.blk≠d:=fun e_=>hfd (by first|(rw[<-e_];exact(By hfs))|rw[<-e_]);have au:¬one m f.blk:=fun h_=>hfm _ (By hfs) h_;have av:f.blk<w.heap.size->(A9 d m fs) f.blk:=fun hl_=>(fun q_ h_ _=>Or.inr (Or.inr h_)) _ (By hfs) hl_;have aw:¬own f.a d:=fun h_=>hfd ((DP hfs) _ h_);have ax:∀q_,own f.a q_->¬one m q_:=fun q_ h_=>hfm q_ ((DP hfs) q_ h_);have aJ:¬AD (l1++l2) d:=fun h_=>hfd ((Bk hfs) _ h_);have aK:∀q_,AD (l1++l2) q_->¬one m q_:=fun q_ h_=>hfm q_ ((Bk hfs) q_ h_);clear hF;refine jG ?_;refine jR<|AA.append (xs:=f.bytes) (ys:=b) underlying98 ty5 rfl rfl rfl ho (hsl.keepN K0 hdis) Zr Zd ?_;intro a3 a7 b2 an ac a8 aL;have aM:¬own a3 d:=a8.not aw hB.lt;have aN:∀q_,own a3 q_->¬one m q_:=a8.apart ax hM.oL;have ay:¬own a3 f.blk:=a8.not hoa hb.lt;have aO:∀q_,own a3 q_->¬AD (l1++l2) q_:=a8.apart (fun q_ h1 h2=>(fun q_ h1 h2=>hRf q_ h1 (Or.inr h2)) q_ h2 h1) hR.oL;have aP:∀q_,own a3 q_->q_<w.heap.size->(A9 d m fs) q_:=a8.inS (fun q_ h_ hl_=>(fun q_ h_ _=>Or.inr (Or.inr h_)) q_ ((DP hfs) q_ h_) hl_) K0.size;replace K0:=K0.trans ac (fun x hlt hx=>(fun q_ h_ hl_=>(fun q_ h_ _=>Or.inr (Or.inr h_)) q_ ((DP hfs) q_ h_) hl_) x hx hlt);clear a8;clear aL;refine jG ?_;replace hb:=hb.keep ac hoa;refine jR<|jS hb ?_;intro az hb ad;replace K0:=K0.trans ad (fun x hlt hx=>by simp only[one]at hx;subst hx;exact av hlt);refine jG ?_;refine jJ func95 ?_;replace hR:=(hR.kO ac (fun q_ h1 h2=>hRf q_ h1 (Or.inr h2))).kO ad (Zx (fun h_=>hRf _ h_ (Or.inl rfl)));replace an:=an.kO ad (Aa ay);have hF':AV az (l1++(⟨f.name,f.blk,a3,a7,f.bytes++b,f.synced⟩:Al)::l2):=AV.close ⟨hb,an,ay⟩ hR (fun q_ h1 h2=>h2.elim (fun e_=>(fun h_=>hRf _ h_ (Or.inl rfl)) (show AD (l1++l2) f.blk from(show q_=f.blk from e_)▸h1)) (fun y_=>(Zf aO) q_ h1 y_));have aQ:¬AD (l1++(⟨f.name,f.blk,a3,a7,f.bytes++b,f.synced⟩:Al)::l2) d:=fun x_=>(Bh _ x_).elim (fun e_=>absurd e_ Zo) (fun y_=>y_.elim aM (fun y_=>aJ y_));have aR:∀q_,AD (l1++(⟨f.name,f.blk,a3,a7,f.bytes++b,f.synced⟩:Al)::l2) q_->¬one m q_:=fun q_ x_ z_=>(Bh _ x_).elim (fun e_=>au (show one m f.blk from e_▸z_)) (fun y_=>y_.elim (fun y_=>aN q_ y_ z_) (fun y_=>(fun y_=>aK q_ y_ z_) y_));have aS:∀q_,AD (l1++(⟨f.name,f.blk,a3,a7,f.bytes++b,f.synced⟩:Al)::l2) q_->q_<w.heap.size->(A9 d m fs) q_:=fun q_ x_ hl_=>(Bh _ x_).elim (fun e_=>e_▸av (e_▸hl_)) (fun y_=>y_.elim (fun y_=>aP q_ y_ hl_) (fun y_=>(fun y_=>(fun q_ h_ hl_=>(fun q_ h_ _=>Or.inr (Or.inr h_)) q_ ((Bk hfs) q_ h_) hl_) q_ y_ hl_) y_));replace hM:=(hM.kO ac (Zf ax)).kO ad (Aa au);have hme:At az m (BC (l1++(⟨f.name,f.blk,a3,a7,f.bytes++b,f.synced⟩:Al)::l2)):=by first|exact hM|(have h_:=hM;rw[If hfs]at h_;exact h_)
   replace hB:=(hB.keep ac aw).kp ad;exact⟨_,rfl,(l1++(⟨f.name,f.blk,a3,a7,f.bytes++b,f.synced⟩:Al)::l2),by rw[he0],⟨hB,hme,hF',hmd,aQ,aR,by rw[TP he0 hnd hfs hfn _ _];exact hok.app⟩,TP he0 hnd hfs hfn _ _,Er aS,K0⟩
theorem V0 (d m:Nat)(room:Int)(fs:List Al)(name:ByteArray)(w:World)(hD:Bo w d m room fs)(hs:name.size<=4294967295):
  Calls prog 112 #[jp d,.string name] w (AN (fun v w'=>∃fs',v= .int .i64 (CL (fs.map Al.p) name)∧Bo w' d m room fs'∧fs'.map Al.p=Bp (fs.map Al.p) name∧(∀q,A9 d m fs' q->q<w.heap.size->A9 d m fs q)∧Ad (A9 d m fs) w w')):=by
 obtain⟨hB,hM,hF,hmd,hfd,hfm,hok⟩:=hD;have hnd:=Bo.names hok;have hlens:=BV.lens hok;have hroom:=hok.room;have hused:=hok.used;have hcnt:=hok.len;rw[Aad]at hcnt;refine Ac (n:=21) func112 rfl rfl rfl ?_;refine jG ?_;refine jR<|jC (Kq d m room fs name _ (⟨hB,hM,hF,hmd,hfd,hfm,hok⟩:Bo _ d m room fs) Zo) ?_;rintro _ a6 ⟨a0,(⟨hmay,rfl⟩|⟨hmay,hno,rfl⟩|⟨hmay,l1,f,l2,hfs,hfn,rfl⟩)⟩
 ·replace hB:=hB.ext a0
  have K0:=(a0:Ap w _).to (S:=(A9 d m fs));refine jG ?_;refine Ai.condF rfl ?_;refine jG ?_;refine jJ func112 ?_;replace hM:=hM.ext a0;replace hF:=hF.ext a0;exact⟨_,rfl,fs,by rw[Hf hmay],⟨hB,hM,hF,hmd,hfd,hfm,hok⟩,by rw[IM (Yc (VZ hok hmay))],fun _ h _=>h,K0⟩
 ·replace hB:=hB.ext a0
  have K0:=(a0:Ap w _).to (S:=(A9 d m fs));refine jG ?_;refine Ai.condF rfl ?_;refine jG ?_;refine jJ func112 ?_;replace hM:=hM.ext a0;replace hF:=hF.ext a0;exact⟨_,rfl,fs,by rw[Ic hmay hno],⟨hB,hM,hF,hmd,hfd,hfm,hok⟩,by rw[IM (Yc hno)],fun _ h _=>h,K0⟩
 ·replace hB:=hB.ext a0
  have K0:=(a0:Ap w _).to (S:=(A9 d m fs));have hfl:=hlens f (CO hfs);refine jG ?_;refine C4 ?_;refine jG ?_;replace hM:=hM.ext a0;refine jR<|AA.deleteMap underlying118 underlying9 rfl rfl rfl hM ?_;intro a2 a1 a3;replace a1:At a2 m (BC (l1++l2)):=(by have h_:=a1;rw[LU hnd hfs hfn]at h_;exact h_);replace K0:=K0.trans a3 (fun x hlt hx=>(fun q_ h_ _=>Or.inr (Or.inl h_)) x hx hlt);replace hM:=a1;clear a1;refine jG ?_;refine jJ func112 ?_;replace hF:=(hF.ext a0).kO a3 hfm;have hF':AV a2 (l1++l2):=(hF.openE hfs).2.1;have a4:¬AD (l1++l2) d:=fun h_=>hfd ((Bk hfs) _ h_);have a5:∀q_,AD (l1++l2) q_->¬one m q_:=fun q_ h_=>hfm q_ ((Bk hfs) q_ h_);have hme:At a2 m (BC (l1++l2)):=by first|exact hM|(have h_:=hM;rw[If hfs]at h_;exact h_)
  replace hB:=hB.keep a3 hmd;exact⟨_,rfl,(l1++l2),by rw[Ie hmay hfs hfn],⟨hB,hme,hF',hmd,a4,a5,by rw[(MK hnd hfs hfn).symm];exact hok.rem⟩,(MK hnd hfs hfn).symm,Er (fun q_ h_ hl_=>(fun q_ h_ _=>Or.inr (Or.inr h_)) q_ ((Bk hfs) q_ h_) hl_),K0⟩
theorem V1 (d m:Nat)(room:Int)(fs:List Al)(name name2:ByteArray)(w:World)(hD:Bo w d m room fs)(hs:name.size<=4294967295)(hs2:name2.size<=4294967295):
  Calls prog 189 #[jp d,.string name,.string name2] w (AN (fun v w'=>∃fs',v= .int .i64 (ET (fs.map Al.p) name name2)∧Bo w' d m room fs'∧(fs'.map Al.p).Perm (Hy (fs.map Al.p) name name2)∧(∀q,A9 d m fs' q->q<w.heap.size->A9 d m fs q)∧Ad (A9 d m fs) w w')):=by
 obtain⟨hB,hM,hF,hmd,hfd,hfm,hok⟩:=hD;have hnd:=Bo.names hok;have hlens:=BV.lens hok;have hroom:=hok.room;have hused:=hok.used;have hcnt:=hok.len;rw[Aad]at hcnt;refine Ac (n:=39) func189 rfl rfl rfl ?_;refine jG ?_;refine jR<|jC (Kq d m room fs name _ (⟨hB,hM,hF,hmd,hfd,hfm,hok⟩:Bo _ d m room fs) Zo) ?_;rintro _ ab ⟨a0,(⟨hmay,rfl⟩|⟨hmay,hno,rfl⟩|⟨hmay,l1,f,l2,hfs,hfn,rfl⟩)⟩
 ·replace hB:=hB.ext a0
  have K0:=(a0:Ap w _).to (S:=(A9 d m fs));refine jG ?_;refine jV (E6 rfl rfl rfl) ?_;refine jG ?_;refine C4 ?_;refine jG ?_;refine jJ func189 ?_;replace hM:=hM.ext a0;replace hF:=hF.ext a0;exact⟨_,rfl,fs,by rw[NJ hmay],⟨hB,hM,hF,hmd,hfd,hfm,hok⟩,by rw[JK (by rw[NJ hmay];decide)],fun _ h _=>h,K0⟩
 ·replace hB:=hB.ext a0
  have K0:=(a0:Ap w _).to (S:=(A9 d m fs));refine jG ?_;refine jV (E6 rfl rfl rfl) ?_;refine jG ?_;refine Ai.condF rfl ?_;refine jG ?_;refine jR<|jC (Yb name2 _ Zo) ?_;rintro _ ac ⟨rfl,a1⟩;refine jG ?_;replace hM:=(hM.ext a0).ext a1;replace hF:=(hF.ext a0).ext a1;replace hB:=hB.ext a1;replace K0:=K0.ext a1;refine jF ?_ ?_
  ·intro hc24
   refine jG ?_;refine jJ func189 ?_;exact⟨_,rfl,fs,by rw[Hg hmay (by simpa using hc24)],⟨hB,hM,hF,hmd,hfd,hfm,hok⟩,by rw[JK (by rw[Hg hmay (by simpa using hc24)];decide)],fun _ h _=>h,K0⟩
  ·intro hc24
   refine jG ?_;refine C4 ?_;refine jG ?_;refine jJ func189 ?_;exact⟨_,rfl,fs,by rw[QN hmay (by simpa using hc24) hno],⟨hB,hM,hF,hmd,hfd,hfm,hok⟩,by rw[JK (by rw[QN hmay (by simpa using hc24) hno];decide)],fun _ h _=>h,K0⟩
 ·replace hB:=hB.ext a0
  have K0:=(a0:Ap w _).to (S:=(A9 d m fs));have hfl:=hlens f (CO hfs);refine jG ?_;refine jV (E6 rfl rfl rfl) ?_;refine jG ?_;refine Ai.condF rfl ?_;refine jG ?_;refine jR<|jC (Yb name2 _ Zo) ?_;rintro _ ad ⟨rfl,a2⟩;refine jG ?_;replace hM:=(hM.ext a0).ext a2;replace hF:=(hF.ext a0).ext a2;replace hB:=hB.ext a2;replace K0:=K0.ext a2;refine jF ?_ ?_
  ·intro hc24
   refine jG ?_;refine jJ func189 ?_;exact⟨_,rfl,fs,by rw[Hg hmay (by simpa using hc24)],⟨hB,hM,hF,hmd,hfd,hfm,hok⟩,by rw[JK (by rw[Hg hmay (by simpa using hc24)];decide)],fun _ h _=>h,K0⟩
  ·intro hc24
   refine jG ?_;refine Ai.condF rfl ?_;refine jG ?_;refine jR<|AA.deleteMap underlying118 underlying9 rfl rfl rfl hM ?_;intro a8 a3 a5;replace a3:At a8 m (BC (l1++l2)):=(by have h_:=a3;rw[LU hnd hfs hfn]at h_;exact h_);replace K0:=K0.trans a5 (fun x hlt hx=>(fun q_ h_ _=>Or.inr (Or.inl h_)) x hx hlt);replace hM:=a3;clear a3;replace hB:=hB.keep a5 hmd;refine jG ?_;refine jR<|AA.mapUpdate (v:=jp f.blk) underlying118 underlying9 rfl rfl rfl rfl hM ?_;intro a7 a4 a6;replace a4:At a7 m (BC (renFs (l1++l2) ⟨name2,f.blk,f.a,f.cap,f.bytes,f.synced⟩)):=((RR (g:=⟨name2,f.blk,f.a,f.cap,f.bytes,f.synced⟩) (LV hnd hfs))▸a4);replace K0:=K0.trans a6 (fun x hlt hx=>(fun q_ h_ _=>Or.inr (Or.inl h_)) x hx hlt);replace hM:=a4;clear a4;refine jG ?_;refine jJ func189 ?_;replace hF:=(hF.kO a5 hfm).kO a6 hfm;have hF':AV a7 (renFs (l1++l2) ⟨name2,f.blk,f.a,f.cap,f.bytes,f.synced⟩):=TQ (hF.openE hfs);have a9:¬AD (renFs (l1++l2) ⟨name2,f.blk,f.a,f.cap,f.bytes,f.synced⟩) d:=fun h_=>hfd ((IS hfs) _ h_);have aa:∀q_,AD (renFs (l1++l2) ⟨name2,f.blk,f.a,f.cap,f.bytes,f.synced⟩) q_->¬one m q_:=fun q_ h_=>hfm q_ ((IS hfs) q_ h_);have hpm:=Yd hok hnd hfs hfn hmay (by simpa using hc24);replace hB:=hB.keep a6 hmd;exact⟨_,rfl,_,by rw[QO hmay (by simpa using hc24) hfs hfn],⟨hB,hM,hF',hmd,a9,aa,hpm.2⟩,hpm.1,Er (fun q_ h_ hl_=>(fun q_ h_ _=>Or.inr (Or.inr h_)) q_ ((IS hfs) q_ h_) hl_),K0⟩
theorem gD (room:Int)(w:World):
  Calls prog 25 #[.int .i64 room] w (AN (fun v w'=>(¬(0<=room∧room<=16777216)∧v= .tuple #[.pointer none,.int .i64 1]∧Ap w w')∨((0<=room∧room<=16777216)∧∃d m,v= .tuple #[jp d,.int .i64 0]∧Bo w' d m room []∧(∀q,A9 d m [] q->w.heap.size<=q)∧Ap w w'))):=by
 refine Ac (n:=14) func25 rfl rfl rfl ?_;refine jG ?_;refine jV (D8 rfl rfl rfl) ?_;refine jG ?_;refine jF ?_ ?_
 ·intro hc9
  refine jG ?_;refine jK func25 ?_;exact⟨_,rfl,.inl ⟨by omega,rfl,Ad.refl _ w⟩⟩
 ·intro hc9
  refine jG ?_;refine jR<|AA.makeMap (κ:=ByteArray) ?_;intro a2 aa a3 a0 a5;have a6:=Bd (Aac _) (Bw a3);clear a3;have K0:=(a5:Ap w _);refine jG ?_;refine jV (AI (cells:=#[.map (some a2),.int .i64 room]) Zk) ?_;refine jR<|jB ?_;intro a7 ab a1 a8 a4;have a9:=An a0.oL a1;have:=Aaa K0.size a1;clear a1;refine jG ?_;refine jK func25 ?_;replace a0:=a0.ext a4;replace K0:=K0.ext a4;exact⟨_,rfl,.inr ⟨by omega,a7,a2,rfl,⟨a8,a0,AV.nil _,a9,fun⟨_,h,_⟩=>absurd h Zs,fun _ ⟨_,h,_⟩=>absurd h Zs,BV.empty Zo⟩,fun q h=>h.elim (fun e=>by rw[e];omega) (fun h=>h.elim (fun e=>a6 q e) (fun⟨_,h,_⟩=>absurd h Zs)),K0⟩⟩
end Go.Proofs.YtjkaicjmfgekjaaGreatDoor
namespace Go.Proofs.YtjkaicjmfgekjaaGreatDoor
open Go.Proofs.Tryz
attribute [local irreducible] RD RS AA RL RA RT Cz Ai
structure FB where
 name:ByteArray
 keep:Int
 junk:SH
instance : Enc FB:=Enc.struct (fun t=>[.string t.name,.int .i64 t.keep,.slice t.junk.a t.junk.len t.junk.cap]) 3 (fun _=>rfl) (fun _ v hv=>by simp at hv;rcases hv with rfl|rfl|rfl<;>rfl) Zd
structure FC (w:World)(ss:List SH)(bss:List (List UInt8)):Prop where
 len:ss.length=bss.length
 all:∀(i:Nat) (s:SH) (bs:List UInt8),ss[i]? =some s->bss[i]? =some bs->s.len=bs.length∧Av w s.a bs
theorem FC.ext {w w':World}{ss:List SH}{bss:List (List UInt8)}(h:FC w ss bss)(k:Ap w w'):FC w' ss bss:=
 ⟨h.len,fun i s bs h1 h2=>⟨(h.all i s bs h1 h2).1,(h.all i s bs h1 h2).2.ext k⟩⟩
theorem FC.two {w:World}{s t:SH}{a b:List UInt8}(h1:s.len=a.length)(h2:Av w s.a a)(h3:t.len=b.length)(h4:Av w t.a b):FC w [s,t] [a,b]:=
 ⟨rfl,fun i x bs hx hb=>by
  match i with
  |0=>simp at hx hb;subst hx;subst hb;exact⟨h1,h2⟩
  |1=>simp at hx hb;subst hx;subst hb;exact⟨h3,h4⟩
  |i+2=>simp at hx⟩
structure FD (w:World)(ts:List FB)(pts:List B0):Prop where
 len:ts.length=pts.length
 all:∀(i:Nat) (t:FB) (p:B0),ts[i]? =some t->pts[i]? =some p->t.name=p.name∧t.keep=p.keep∧t.junk.len=p.junk.length∧Av w t.junk.a p.junk
 size:∀p∈pts,p.name.size<=4294967295∧p.junk.length<=4294967295∧-9223372036854775808<=p.keep∧p.keep<=9223372036854775807
theorem FD.ext {w w':World}{ts:List FB}{pts:List B0}(h:FD w ts pts)(k:Ap w w'):FD w' ts pts:=
 ⟨h.len,fun i t p h1 h2=>have h3:=h.all i t p h1 h2;⟨h3.1,h3.2.1,h3.2.2.1,h3.2.2.2.ext k⟩,h.size⟩
structure Dg where
 name:ByteArray
 a:Option Addr
 cap:Nat
 bytes:List UInt8
def V2 (x:Dg):ByteArray×Value:=(x.name,.slice x.a x.bytes.length x.cap)
def Fb (l:List Dg):List (ByteArray×Value):=l.map V2
def Dg.p (x:Dg):ByteArray×List UInt8:=(x.name,x.bytes)
def BF (l:List Dg):Nat->Prop:=fun q=>∃x∈l,own x.a q
structure B8 (w:World)(l:List Dg):Prop where
 all:∀x∈l,Af w 5 x.a x.cap x.bytes
 apart:l.Pairwise (fun x y=>∀q,own x.a q->¬own y.a q)
section
variable {w w':World}{S:Nat->Prop}{x:Dg}{l l1 l2:List Dg}{pl:List PF}{pts:List B0}
theorem B8.oL (h:B8 w l):∀q,BF l q->q<w.heap.size:=fun q ⟨x,hx,hq⟩=>(h.all x hx).oL q hq
theorem B8.kO (h:B8 w l)(k:Ad S w w')(hn:∀q,BF l q->¬S q):B8 w' l:=⟨fun x hx=>(h.all x hx).kO k (fun q hq=>hn q ⟨x,hx,hq⟩),h.apart⟩
theorem B8.ext (h:B8 w l)(k:Ap w w'):B8 w' l:=h.kO k fun _ _=>id
theorem B8.nil (w:World):B8 w []:=⟨fun _ h=>absurd h Zs,List.Pairwise.nil⟩
theorem B8.perm (h:B8 w l){l':List Dg}(p:l.Perm l'):B8 w l':=
 ⟨fun f hf=>h.all f (p.mem_iff.2 hf),(p.pairwise_iff (fun{a b} hab q h1 h2=>hab q h2 h1)).1 h.apart⟩
theorem B8.snoc (h:B8 w l)(hx:Af w 5 x.a x.cap x.bytes)(hn:∀q,BF l q->¬own x.a q):B8 w (l++[x]):=by
 refine B8.perm (l:=x::l) ⟨fun y hy=> ?_,List.pairwise_cons.2 ⟨fun y hy q h1 h2=>hn q ⟨y,hy,h2⟩ h1,h.apart⟩⟩ (List.perm_append_singleton _ _).symm
 rcases List.mem_cons.1 hy with rfl|hy
 ·exact hx
 ·exact h.all y hy
theorem B8.openE (h:B8 w l)(e:l=l1++x::l2):Af w 5 x.a x.cap x.bytes∧B8 w (l1++l2)∧∀q,BF (l1++l2) q->¬own x.a q:=by
 have h':=h.perm (e▸List.perm_middle:l.Perm (x::(l1++l2)))
 obtain⟨h1,h2⟩:=List.pairwise_cons.1 h'.apart
 exact⟨h'.all x Zs,⟨fun y hy=>h'.all y (AaB _ hy),h2⟩,fun q ⟨y,hy,hq⟩ hx=>h1 y hy q hx hq⟩
theorem left_case :∀q,BF (l++[x]) q->own x.a q∨BF l q:=fun q ⟨y,hy,hq⟩=>by
 rcases List.mem_append.1 hy with hy|hy
 ·exact .inr ⟨y,hy,hq⟩
 ·simp only[Aah]at hy;subst hy;exact .inl hq
theorem Fc {n:ByteArray}{a:Option Addr}{c:Nat}{b:List UInt8}:∀q,BF (l++[⟨n,a,c,b⟩]) q->own a q∨BF l q:=left_case
theorem Es (e:l=l1++x::l2):∀q,own x.a q->BF l q:=fun q h=>⟨x,by subst e;simp,h⟩
theorem Et (e:l=l1++x::l2):∀q,BF (l1++l2) q->BF l q:=fun q ⟨y,hy,hq⟩=>⟨y,by subst e;rcases List.mem_append.1 hy with h|h<;>simp[h],hq⟩
theorem Pp (l:List Dg):(Fb l).map (·.1)=l.map (·.name):=by simp[Fb,V2]
theorem NK {n:ByteArray}(h:∀x∈l,x.name≠n):BO (Fb l) n=none:=LO fun p hp=>by obtain⟨f,hf,rfl⟩:=List.mem_map.1 hp;exact h f hf
theorem NL (hn:(l.map (·.name)).Nodup)(hx:x∈l){n:ByteArray}(e:x.name=n):BO (Fb l) n=some (.slice x.a x.bytes.length x.cap):=by
 subst e
 obtain⟨l1,l2,rfl⟩:=AbA hx
 have e2:Fb (l1++x::l2)=Fb l1++(x.name,.slice x.a x.bytes.length x.cap)::Fb l2:=by simp[Fb,V2]
 rw[e2]
 exact NG (by rw[<-e2,Pp];exact hn)
theorem RU {n:ByteArray}(h:∀x∈l,x.name≠n)(a:Option Addr)(c:Nat)(b:List UInt8):CX (Fb l) n (.slice a b.length c)=Fb (l++[⟨n,a,c,b⟩]):=by
 rw[CX,Kn (fun p hp=>by obtain⟨f,hf,rfl⟩:=List.mem_map.1 hp;exact h f hf)]
 simp[Fb,V2]
def QP (pl:List PF)(t:B0):ByteArray×List UInt8:=(t.name,match Ci pl t.name with|some f=>DW f t|none=>[])
def GZ (pl:List PF)(ts:List B0):List (ByteArray×List UInt8):=ts.map (QP pl)
def Ks (ts:List B0)(i:Nat):List ByteArray:=((ts.take i).map (·.name)).reverse
theorem Hh {α:Type}{l:List α}{i:Nat}{x:α}(h:l[i]? =some x):l.drop i=x::l.drop (i+1):=by
 obtain⟨hi,rfl⟩:=List.getElem?_eq_some_iff.1 h;exact AbC hi
theorem IT {α:Type}{l:List α}{i:Nat}{x:α}(h:l[i]? =some x):l.take (i+1)=l.take i++[x]:=by
 obtain⟨hi,rfl⟩:=List.getElem?_eq_some_iff.1 h;exact AaL hi
theorem RV {i:Nat}{t:B0}(h:pts[i]? =some t):Ks pts (i+1)=t.name::Ks pts i:=by rw[Ks,IT h,Ks];simp
structure Ce (pl:List PF)(pts:List B0)(i:Nat)(ls:List Dg):Prop where
 err:CA pl pts []=CA pl (pts.drop i) (Ks pts i)
 left:ls.map Dg.p=GZ pl (pts.take i)
 nodup:(ls.map (·.name)).Nodup
theorem Ce.zero :Ce pl pts 0 []:=⟨rfl,rfl,by simp⟩
theorem Ce.names {i:Nat}(h:Ce pl pts i l):l.map (·.name)=(pts.take i).map (·.name):=by
 have:=congrArg (List.map (·.1)) h.left
 rw[GZ,Aat,Aat]at this
 exact this
theorem Ce.seen {i:Nat}(h:Ce pl pts i l){n:ByteArray}:(Ks pts i).any (fun s=>decide (s=n))=true↔∃x∈l,x.name=n:=by
 rw[Ks,List.any_reverse,<-h.names,Aa9]
 constructor
 ·rintro⟨y,hy,e⟩
  obtain⟨x,hx,rfl⟩:=List.mem_map.1 hy
  exact⟨x,hx,by simpa using e⟩
 ·rintro⟨x,hx,e⟩
  exact⟨x.name,List.mem_map.2 ⟨x,hx,rfl⟩,by simpa using e⟩
theorem Ce.bad {i:Nat}{t:B0}(h:Ce pl pts i l)(ht:pts[i]? =some t)(hm:CK t.name=false):CA pl pts []=6:=by
 rw[h.err,Hh ht,CA,if_neg (by simp[hm])]
theorem Ce.no {i:Nat}{t:B0}(h:Ce pl pts i l)(ht:pts[i]? =some t)(hm:CK t.name=true)(hl:Ci pl t.name=none):CA pl pts []=20:=by
 rw[h.err,Hh ht,CA,if_pos hm,hl]
theorem Ce.tear {i:Nat}{t:B0}{f:PF}(h:Ce pl pts i l)(ht:pts[i]? =some t)(hm:CK t.name=true)(hl:Ci pl t.name=some f)(hc:(∃x∈l,x.name=t.name)∨EN f t=false):CA pl pts []=21:=by
 rw[h.err,Hh ht,CA,if_pos hm,hl]
 simp only
 rw[if_pos]
 rcases hc with hc|hc
 ·exact .inl (h.seen.2 hc)
 ·exact .inr hc
theorem Ce.step {i:Nat}{t:B0}{f:PF}(h:Ce pl pts i l)(ht:pts[i]? =some t)(hm:CK t.name=true)(hl:Ci pl t.name=some f)(hno:∀x∈l,x.name≠t.name)(hk:EN f t=true)(a:Option Addr)(c:Nat):
  Ce pl pts (i+1) (l++[⟨t.name,a,c,DW f t⟩]):=by
 refine⟨?_,?_,?_⟩
 ·rw[h.err,Hh ht,CA,if_pos hm,hl]
  simp only
  rw[if_neg,RV ht]
  rintro(hc|hc)
  ·obtain⟨x,hx,e⟩:=h.seen.1 hc;exact hno x hx e
  ·rw[hk]at hc;cases hc
 ·rw[IT ht,GZ,Aam,Aam,h.left,GZ]
  simp only[Aae,Aau,QP,hl,Dg.p]
 ·rw[Aam,Abd]
  refine⟨h.nodup,by simp,?_⟩
  intro y hy z hz
  obtain⟨x,hx,rfl⟩:=List.mem_map.1 hy
  simp only[Aae,Aau,Aah]at hz
  subst hz;exact hno x hx
theorem Ce.step' {i:Nat}{t:B0}{f:PF}(h:Ce pl pts i l)(ht:pts[i]? =some t){n:ByteArray}(e:n=t.name)(hm:CK n=true)(hl:Ci pl n=some f)(hno:∀x∈l,x.name≠n)(hk:EN f t=true)(a:Option Addr)(c:Nat):
  Ce pl pts (i+1) (l++[⟨n,a,c,DW f t⟩]):=by subst e;exact h.step ht hm hl hno hk a c
theorem V3 {f:PF}{t:B0}(h:t.keep<0∨(f.bytes.length:Int)-f.synced<t.keep∨(f.bytes.length:Int)-f.synced-t.keep<t.junk.length):EN f t=false:=by
 rw[Acb];intro e;simp only[EN,Aao,decide_eq_true_eq]at e;omega
theorem V4 {f:PF}{t:B0}(h:0<=t.keep∧t.keep<=(f.bytes.length:Int)-f.synced∧(t.junk.length:Int)<=(f.bytes.length:Int)-f.synced-t.keep):EN f t=true:=by
 simp only[EN,Aao,decide_eq_true_eq];omega
end
theorem NM {bss:List (List UInt8)}{i:Nat}{bs:List UInt8}(h:bss[i]? =some bs):(bss.take (i+1)).flatten=(bss.take i).flatten++bs:=by rw[IT h];simp
theorem MN (bss:List (List UInt8))(i:Nat):(bss.take i).flatten.length<=bss.flatten.length:=by
 have e:bss.flatten=(bss.take i).flatten++(bss.drop i).flatten:=by rw[<-List.flatten_append,Acd]
 rw[e,Aab];omega
attribute [local irreducible] X
theorem RW (q:Nat)(w:World)(hq:q<=4294967295):
  Calls prog 174 #[.slice none 0 0,.int .i64 ((q:Nat):Int)] w (AN (fun v w'=>∃a' c',v= .slice a' 0 c'∧Af w' 5 a' c' ([]:List UInt8)∧(∀b,own a' b->w.heap.size<=b)∧Ap w w')):=by
 refine Ac (n:=27) func174 rfl rfl rfl ?_;refine jG ?_;refine jF ?_ ?_
 ·intro hc6
  exfalso;omega
 ·intro hc6
  refine jG ?_;refine jV (Az (c:=0) (Fz underlying98 rfl) rfl) ?_;refine FW ?_;refine jV (Az (c:=0) (Cw underlying98 rfl) rfl) ?_;refine jV (Az (c:=0) (BT rfl rfl Zd Zd) Zd) ?_;refine jV (Az (c:=((q:Nat):Int)) (BT rfl rfl Zo Zo) Zo) ?_;refine jG ?_;refine jF ?_ ?_
  ·intro hc16
   refine jG ?_;refine jV (Az (c:=0) (Fz underlying98 rfl) rfl) ?_;refine jV (BX (j:=0) underlying98 ty5 rfl rfl Zo) ?_;refine jG ?_;refine jR<|AA.appendZeros (q:=q) UInt8 underlying98 underlying3 ty5 rfl rfl rfl Zo Zo Zd ?_;intro a1 a2 a6 a0 a7 a3 a4;have a5:=Bd (Aac _) (CV a0);clear a0;have K0:=(a4:Ap w _);refine FW ?_;refine jV (Az (c:=0) (Cw underlying98 rfl) rfl) ?_;refine jV (BX (j:=0) underlying98 ty5 rfl rfl Zo) ?_;refine jG ?_;refine jJ func174 ?_;exact⟨_,rfl,some ⟨a1,0,none⟩,a2,rfl,a3,a5,K0⟩
  ·intro hc16
   refine jG ?_;refine jJ func174 ?_;exact⟨_,rfl,none,0,rfl,Af.nil _ _,fun b h=>absurd h (Ae b),Ad.refl _ w⟩
theorem NN (a:Option Addr)(ss:List SH)(c:Nat)(bss:List (List UInt8))(w:World)(hs:Av w a ss)(hp:FC w ss bss)(hl:bss.flatten.length<=4294967295)(hl2:bss.length<=4294967295):
  Calls prog 110 #[.slice a ss.length c] w (AN (fun v w'=>∃a' c',v= .slice a' bss.flatten.length c'∧Af w' 5 a' c' bss.flatten∧(∀b,own a' b->w.heap.size<=b)∧Ap w w')):=by
 have hlen:=hp.len;refine Ac (n:=36) func110 rfl rfl rfl ?_;refine jG ?_;refine Ai.loop (ι:=Nat) (fun i ρ' w'=>Holds ρ' [(0,.slice a ss.length c),(3,.int .i64 ((((bss.take i).flatten).length:Nat):Int)),(9,.slice a ss.length c),(10,.int .i64 ((ss.length:Nat):Int)),(11,.int .i64 ((i:Nat):Int))]∧Ap w w'∧(i<=bss.length)) (fun i=>bss.length-i) 0 ?_ ?_
 ·refine⟨⟨rfl,rfl,rfl,rfl,rfl,trivial⟩,(Ad.refl _ w),?_⟩
  ·omega
 rintro i ai aj ⟨a4,K0,hi⟩ ih1;obtain⟨ρ₀,rfl⟩:=a4.ex;clear a4;refine jG ?_;refine jF ?_ ?_
 ·intro hc12
  refine El ?_;obtain⟨ak,al,s,hx,a9,a0⟩:=hs.eo i;have hc_7_lt:=a0.lt;refine jV (AS underlying130 ty98 rfl rfl a9 Zl) ?_;obtain⟨bs,hbs⟩:∃bs,bss[i]? =some bs:=⟨_,List.getElem?_eq_getElem Zo⟩;obtain⟨hsl1,hsl2⟩:=(hp.ext K0).all i s bs hx hbs;have hfl:=NM (i:=i) hbs;have hfl2:(bss.take (i+1)).flatten.length=(bss.take i).flatten.length+bs.length:=by rw[hfl,Aab]
  have hft:=MN bss (i+1);replace a0:=a0.ext K0;refine jG ?_;refine jV (Az (c:=(((bss.take (i+1)).flatten).length:Int)) (Az (c:=(((((bss.take i).flatten).length)+s.len:Nat):Int)) (Au rfl rfl Zo Zo) rfl) Zo) ?_;refine jG ?_;refine jF ?_ ?_
  ·intro hc20
   exfalso;omega
  ·intro hc20
   refine jG ?_;refine jV (Az (c:=((i+1:Nat):Int)) (Au rfl rfl Zo Zo) rfl) ?_;refine jG ?_;refine ih1 (i+1) _ _ ?_ Zo;refine⟨⟨rfl,rfl,rfl,rfl,rfl,trivial⟩,K0,?_⟩
   ·omega
 ·intro hc12
  refine jG ?_;have hfull:(bss.take i).flatten=bss.flatten:=by rw[AaA Zo]
  rw[hfull];refine jG ?_;refine jR<|jC (RW bss.flatten.length _ Zo) ?_;rintro _ am ⟨an,ap,rfl,a5,a6,aa⟩;have ab:=Bd K0.size a6;clear a6;refine jG ?_;replace K0:=K0.ext aa;refine Ai.loop (ι:=Nat) (fun i ρ' w'=>∃ao:Option Addr,∃co:Nat,Holds ρ' [(6,.slice ao (((bss.take i).flatten).length) co),(25,.slice a ss.length c),(26,.int .i64 ((ss.length:Nat):Int)),(27,.int .i64 ((i:Nat):Int))]∧Ap w w'∧(Af w' 5 ao co ((bss.take i).flatten))∧(∀q_,own ao q_->w.heap.size<=q_)∧(i<=bss.length)) (fun i=>bss.length-i) 0 ?_ ?_
  ·refine⟨_,_,⟨rfl,rfl,rfl,rfl,trivial⟩,K0,a5,ab,?_⟩
   ·omega
  clear a5;clear K0;rintro i aq ar ⟨ao,co,a7,K0,a1,a2,hi⟩ ih2;obtain⟨ρ₀,rfl⟩:=a7.ex;clear a7;refine jG ?_;refine jF ?_ ?_
  ·intro hc28
   refine El ?_;obtain⟨au,av,s,hx,ac,a3⟩:=hs.eo i;have hc_25_lt:=a3.lt;refine jV (AS underlying130 ty98 rfl rfl ac Zl) ?_;replace a3:=a3.ext K0;refine jG ?_;obtain⟨bs,hbs⟩:∃bs,bss[i]? =some bs:=⟨_,List.getElem?_eq_getElem Zo⟩;obtain⟨hsl1,hsl2⟩:=(hp.ext K0).all i s bs hx hbs;have hfl:=NM (i:=i) hbs;have hfl2:(bss.take (i+1)).flatten.length=(bss.take i).flatten.length+bs.length:=by rw[hfl,Aab]
   have hft:=MN bss (i+1);rw[hsl1];refine jG ?_;refine jR<|AA.append (xs:=(bss.take i).flatten) (ys:=bs) underlying98 ty5 rfl rfl rfl a1 hsl2 (by have:=MN bss i;rw[hfl,Aab]at hft;omega) Zd ?_;intro ad aw ax ae af a8 ag;have ah:∀q_,own ad q_->w.heap.size<=q_:=a8.ge a2 K0.size;clear a8;clear ag;refine jG ?_;refine jV (Az (c:=((i+1:Nat):Int)) (Au rfl rfl Zo Zo) rfl) ?_;refine jG ?_;refine ih2 (i+1) _ _ ?_ Zo;rw[hfl];replace K0:=K0.new af a2;refine⟨_,_,⟨rfl,rfl,rfl,rfl,trivial⟩,K0,ae,ah,?_⟩
   ·omega
  ·intro hc28
   refine jG ?_;refine Ai.ret1 (v:= .slice ao (((bss.take i).flatten).length) co) func110 rfl rfl ?_;have hil:i=bss.length:=by omega
   subst hil;rw[Aas]at a1⊢;exact⟨_,rfl,ao,co,rfl,a1,a2,K0⟩
theorem V5 (a:Option Addr)(ss:List SH)(c:Nat)(bss:List (List UInt8))(r:List UInt8)(w:World)(hs:Av w a ss)(hp:FC w ss bss)(hl2:bss.length<=4294967295)(he:bss.flatten=r)(hl:r.length<=4294967295):
  Calls prog 110 #[.slice a ss.length c] w (AN fun v w'=>∃a' c',v= .slice a' r.length c'∧Af w' 5 a' c' r∧(∀b,own a' b->w.heap.size<=b)∧Ap w w'):=by
 subst he;exact NN a ss c bss w hs hp hl hl2
theorem ZQ (d m:Nat)(room:Int)(fs:List Al)(a:Option Addr)(ts:List FB)(c:Nat)(pts:List B0)(w:World)(hD:Bo w d m room fs)(hs:Av w a ts)(ht:FD w ts pts)(hl:ts.length<=4294967295):
  Calls prog 55 #[jp d,.slice a ts.length c] w (AN (fun v w'=>Ap w w'∧((CA (fs.map Al.p) pts []≠0∧v= .tuple #[.map none,.int .i64 (CA (fs.map Al.p) pts [])])∨(CA (fs.map Al.p) pts []=0∧∃lm ls,v= .tuple #[.map (some lm),.int .i64 0]∧At w' lm (Fb ls)∧B8 w' ls∧ls.map Dg.p=GZ (fs.map Al.p) pts∧(ls.map (·.name)).Nodup∧(∀q,BF ls q->¬one lm q)∧w.heap.size<=lm∧(∀q,BF ls q->w.heap.size<=q))))):=by
 obtain⟨hB,hM,hF,hmd,hfd,hfm,hok⟩:=hD;have hnd:=Bo.names hok;have hlens:=BV.lens hok;have hroom:=hok.room;have hused:=hok.used;have hcnt:=hok.len;rw[Aad]at hcnt;refine Ac (n:=91) func55 rfl rfl rfl ?_;refine jG ?_;refine jR<|AA.makeMap (κ:=ByteArray) ?_;intro a4 ay ah ap ai;have az:=Aw (Bw ah) hB.lt;have aA:=Ah (Bw ah) hM.oL;have aB:=Ah (Bw ah) hF.oL;have aC:=Bd (Aac _) (Bw ah);clear ah;have K0:=(ai:Ap w _);have hL:=B8.nil ay;refine jG ?_;replace hB:=hB.ext ai;replace hM:=hM.ext ai;replace hF:=hF.ext ai;refine Ai.loop (ι:=Nat) (fun i ρ' w'=>∃ls:List Dg,Holds ρ' [(0,jp d),(6,.map (some a4)),(15,.slice a ts.length c),(16,.int .i64 ((ts.length:Nat):Int)),(17,.int .i64 ((i:Nat):Int))]∧Ap w w'∧(AB w' d [.map (some m),.int .i64 room] 120)∧(At w' m (BC fs))∧(AV w' fs)∧(At w' a4 (Fb ls))∧(B8 w' ls)∧(¬one a4 d)∧(∀q_,one a4 q_->¬one m q_)∧(∀q_,one a4 q_->¬AD fs q_)∧(∀q_,one a4 q_->¬BF ls q_)∧(∀q_,one a4 q_->w.heap.size<=q_)∧(¬BF ls d)∧(∀q_,BF ls q_->¬one m q_)∧(∀q_,BF ls q_->¬AD fs q_)∧(∀q_,BF ls q_->w.heap.size<=q_)∧(i<=ts.length)∧(Ce (fs.map Al.p) pts i ls)) (fun i=>ts.length-i) 0 ?_ ?_
 ·refine⟨[],⟨rfl,rfl,rfl,rfl,rfl,trivial⟩,K0,hB,hM,hF,ap,hL,az,aA,aB,(fun q_ h1 h2=>(fun q_ ⟨_,h_,_⟩ _=>absurd h_ Zs) q_ h2 h1),aC,(fun⟨_,h_,_⟩=>absurd h_ Zs),(fun q_ ⟨_,h_,_⟩ _=>absurd h_ Zs),(fun q_ ⟨_,h_,_⟩ _=>absurd h_ Zs),(fun q_ ⟨_,h_,_⟩=>absurd h_ Zs),?_,?_⟩
  ·omega
  ·exact Ce.zero
 clear hB hM hF ap hL;clear K0;rintro i aX aY ⟨ls,aq,K0,hB,hM,hF,a0,a2,ar,au,al,am,an,aD,aE,aF,av,hi,hti⟩ ih1;obtain⟨ρ₀,rfl⟩:=aq.ex;clear aq;refine jG ?_;refine jF ?_ ?_
 ·intro hc18
  obtain⟨aZ,b0,t,hx,b1,aj⟩:=hs.eo i;have hc_27_lt:=aj.lt;replace aj:=aj.ext K0;refine jG ?_;refine jR<|jA ?_;intro b2 b3 ac a3 af;have b4:=Ak hB.lt ac;have b5:=Ak aj.lt ac;have aG:=An hM.oL ac;have aH:=An hF.oL ac;have aI:=An a0.oL ac;have aJ:=An a2.oL ac;have:=Aaa K0.size ac;clear ac;refine jR<|jS a3 ?_;intro b6 a3 ag;obtain⟨p,hp⟩:∃p,pts[i]? =some p:=⟨_,List.getElem?_eq_getElem (by rw[<-ht.len];omega)⟩;obtain⟨htn,htk,htl,htj⟩:=ht.all i t p hx hp;obtain⟨hz1,hz2,hz3,hz4⟩:=ht.size p (Aan hp);have hns:t.name.size<=4294967295:=by rw[htn];exact hz1
  have hlnd:=hti.nodup;refine jG ?_;replace hB:=(hB.ext af).kp ag;replace hM:=(hM.ext af).kO ag (Aa aG);replace hF:=(hF.ext af).kO ag (Aa aH);refine jR<|jC (Kq d m room fs t.name _ (⟨hB,hM,hF,hmd,hfd,hfm,hok⟩:Bo _ d m room fs) Zo) ?_;replace a0:=(a0.ext af).kO ag (Aa aI);replace a2:=(a2.ext af).kO ag (Aa aJ);replace K0:=(K0.ext af).n1 ag;rintro _ b7 ⟨a1,(⟨hmay,rfl⟩|⟨hmay,hno,rfl⟩|⟨hmay,l1,f,l2,hfs,hfn,rfl⟩)⟩
  ·replace hB:=hB.ext a1
   refine jG ?_;refine C4 ?_;refine jG ?_;refine jK func55 ?_;have he:=hti.bad hp (by rw[<-htn];exact hmay);replace hM:=hM.ext a1;replace hF:=hF.ext a1;replace a0:=a0.ext a1;replace a2:=a2.ext a1;replace a3:=a3.ext a1;replace K0:=K0.ext a1;exact⟨_,rfl,K0,.inl ⟨by rw[he];decide,by rw[he]⟩⟩
  ·replace hB:=hB.ext a1
   refine jG ?_;refine C4 ?_;refine jG ?_;refine jK func55 ?_;have he:=hti.no hp (by rw[<-htn];exact hmay) (by rw[<-htn];exact GW hno);replace hM:=hM.ext a1;replace hF:=hF.ext a1;replace a0:=a0.ext a1;replace a2:=a2.ext a1;replace a3:=a3.ext a1;replace K0:=K0.ext a1;exact⟨_,rfl,K0,.inl ⟨by rw[he];decide,by rw[he]⟩⟩
  ·replace hB:=hB.ext a1
   have hfl:=hlens f (CO hfs);refine jG ?_;refine Ai.condF rfl ?_;refine El ?_;replace hM:=hM.ext a1;replace hF:=hF.ext a1;replace a0:=a0.ext a1;replace a2:=a2.ext a1;replace a3:=a3.ext a1;replace K0:=K0.ext a1;by_cases h8:∃x∈ls,x.name=t.name
   ·obtain⟨x,hxl,hxn⟩:=h8
    refine jG ?_;refine jV (C7 (v':= .tuple #[.slice x.a x.bytes.length x.cap,.bool true]) (BA underlying115 underlying9 rfl ty98 rfl rfl a0) (by rw[NL hlnd hxl hxn];rfl)) ?_;refine jG ?_;have hfx:=hF.all f (CO hfs);have hb:=hfx.blk;have hsl:=hfx.own.sl;have hcp:=hfx.own.le_cap;have hsy:=(hlens f (CO hfs)).1;refine Ai.drawR ?_;intro b8 a7;replace hb:=hb.ext a7;refine jG ?_;refine jD (BT rfl rfl Zo Zo) ?_;refine jG ?_;refine jV (D8 (b:=true) (e:=false) rfl rfl rfl) ?_;refine jG ?_;refine jV (D8 (b:=true) (e:=false) rfl rfl rfl) ?_;refine jG ?_;refine jV (D8 (b:=true) (e:=false) rfl rfl rfl) ?_;refine jG ?_;refine C4 ?_;refine jG ?_;refine jK func55 ?_;have he:=hti.tear hp (by rw[<-htn];exact hmay) (by rw[<-htn];exact Fa hnd hfs hfn) (.inl ⟨x,hxl,by rw[<-htn];exact hxn⟩);replace hB:=hB.ext a7;replace hM:=hM.ext a7;replace hF:=hF.ext a7;replace a0:=a0.ext a7;replace a2:=a2.ext a7;replace a3:=a3.ext a7;replace hsl:=hsl.ext a7;replace K0:=K0.ext a7;exact⟨_,rfl,K0,.inl ⟨by rw[he];decide,by rw[he]⟩⟩
   ·have hxno:∀x∈ls,x.name≠t.name:=fun x hx e=>h8 ⟨x,hx,e⟩
    refine jG ?_;refine jV (C7 (v':= .tuple #[.slice none 0 0,.bool false]) (BA underlying115 underlying9 rfl ty98 rfl rfl a0) (by rw[NK hxno];rfl)) ?_;refine jG ?_;have hfx:=hF.all f (CO hfs);have hb:=hfx.blk;have hsl:=hfx.own.sl;have hcp:=hfx.own.le_cap;have hsy:=(hlens f (CO hfs)).1;have aK:¬one a4 f.blk:=fun h_=>al _ h_ (By hfs);refine Ai.drawR ?_;intro b9 a8;replace hb:=hb.ext a8;refine jG ?_;refine jD (BT rfl rfl Zo Zo) ?_;replace a3:=a3.ext a8;refine jG ?_;refine jV (E6 rfl rfl rfl) ?_;refine jG ?_;refine jV (D8 rfl rfl rfl) ?_;refine jG ?_;refine jW ?_ (hx:=by exact fun hg=>(BT (BR hg) (BR hg) (by simp only[br]at hg;omega) (by simp only[br]at hg;omega)));refine jG ?_;refine jV (D8 rfl rfl rfl) ?_;refine jG ?_;replace hB:=hB.ext a8;replace hM:=hM.ext a8;replace hF:=hF.ext a8;replace a0:=a0.ext a8;replace a2:=a2.ext a8;replace hsl:=hsl.ext a8;replace K0:=K0.ext a8;refine jF ?_ ?_
    ·intro hc69
     refine jG ?_;refine jK func55 ?_;have he:=hti.tear hp (by rw[<-htn];exact hmay) (by rw[<-htn];exact Fa hnd hfs hfn) (.inr (V3 (by show _∨((f.bytes.length:Nat):Int)-(f.synced:Int)<_∨((f.bytes.length:Nat):Int)-(f.synced:Int)-_<_;rw[<-htk,<-htl];omega)));exact⟨_,rfl,K0,.inl ⟨by rw[he];decide,by rw[he]⟩⟩
    ·intro hc69
     refine jG ?_;refine Ai.drawS [19] [0,1,1002,3,4,5,1006,7,8,9,1010,11,1012,13,14,15,1016,2017,2018,2019] ?_;intro ba a9;replace a3:=a3.ext a9;replace hb:=hb.ext a9;refine jM (jb a3 (jb hb Jn)) ?_;refine jG ?_;refine jP ?_ (hx:=by exact fun _=>(Az (c:=((f.synced+p.keep.toNat:Nat):Int)) (Au rfl rfl Zo Zo) Zo));refine jP ?_ (hx:=by exact fun _=>(HB (m':=(f.bytes.take (f.synced+p.keep.toNat)).length) (BX underlying98 ty5 rfl rfl Zo) Zt));refine jG ?_;refine jU rfl<|AA.buildSlice ([⟨f.a,(f.bytes.take (f.synced+p.keep.toNat)).length,f.cap⟩,⟨t.junk.a,t.junk.len,t.junk.cap⟩]:List SH) underlying130 ty98 rfl rfl Ze ?_;intro bb bc aL aM aa;clear aL;replace a3:=a3.ext aa;replace hb:=hb.ext aa;refine jG ?_;replace hsl:=(hsl.ext a9).ext aa;replace K0:=(K0.ext a9).ext aa;refine jU rfl<|jC (V5 _ _ _ [f.bytes.take (f.synced+p.keep.toNat),p.junk] (DW f.p p) _ aM.sl (FC.two (by rw[List.length_take]) (hsl.take _) htl (htj.ext K0)) Zs (by simp[DW,Al.p]) (by simp only[DW,Al.p,Aab,List.length_take];omega)) ?_;rintro _ be ⟨a5,a6,rfl,ao,ad,ab⟩;replace hB:=(hB.ext a9).ext aa;have aN:=Aw ad hB.lt;replace hM:=(hM.ext a9).ext aa;have aO:=Ah ad hM.oL;replace hF:=(hF.ext a9).ext aa;have aP:=Ah ad hF.oL;replace a0:=(a0.ext a9).ext aa;have aw:=Ah ad a0.oL;replace a2:=(a2.ext a9).ext aa;have aQ:=Ah ad a2.oL;have aR:=Bd K0.size ad;clear ad;replace a3:=a3.ext ab;replace hb:=hb.ext ab;refine jG ?_;replace a0:=a0.ext ab;refine jU rfl<|AA.mapUpdate (v:= .slice a5 ((DW f.p p).length) a6) underlying115 underlying9 rfl rfl rfl rfl a0 ?_;intro ax ak ae;replace ak:At ax a4 (Fb (ls++[⟨t.name,a5,a6,DW f.p p⟩])):=(RU hxno a5 a6 (DW f.p p)▸ak);replace a0:=ak;clear ak;replace a2:=(a2.ext ab).kO ae (Zf am);replace ao:=ao.kO ae aw;have hL':B8 ax (ls++[⟨t.name,a5,a6,DW f.p p⟩]):=B8.snoc (x:=⟨t.name,a5,a6,DW f.p p⟩) a2 ao (fun q_ h1 h2=>(Zf aQ) q_ h1 h2);have aS:¬BF (ls++[⟨t.name,a5,a6,DW f.p p⟩]) d:=fun x_=>(Fc _ x_).elim aN (fun y_=>aD y_);have aT:∀q_,BF (ls++[⟨t.name,a5,a6,DW f.p p⟩]) q_->¬one m q_:=fun q_ x_ z_=>(Fc _ x_).elim (fun y_=>aO q_ y_ z_) (fun y_=>(fun y_=>aE q_ y_ z_) y_);have aU:∀q_,BF (ls++[⟨t.name,a5,a6,DW f.p p⟩]) q_->¬AD fs q_:=fun q_ x_ z_=>(Fc _ x_).elim (fun y_=>aP q_ y_ z_) (fun y_=>(fun y_=>aF q_ y_ z_) y_);have aV:∀q_,BF (ls++[⟨t.name,a5,a6,DW f.p p⟩]) q_->¬one a4 q_:=fun q_ x_ z_=>(Fc _ x_).elim (fun y_=>aw q_ y_ z_) (fun y_=>(fun y_=>(Zf am) q_ y_ z_) y_);have aW:∀q_,BF (ls++[⟨t.name,a5,a6,DW f.p p⟩]) q_->w.heap.size<=q_:=fun q_ x_=>(Fc _ x_).elim (fun y_=>aR q_ y_) (fun y_=>(fun y_=>av q_ y_) y_);have hti':=hti.step' hp htn hmay (Fa hnd hfs hfn) hxno (V4 (by show _∧_<=((f.bytes.length:Nat):Int)-(f.synced:Int)∧_<=((f.bytes.length:Nat):Int)-(f.synced:Int)-_;rw[<-htk,<-htl];omega)) a5 a6;refine jG ?_;refine jV (Az (c:=((i+1:Nat):Int)) (Au rfl rfl Zo Zo) rfl) ?_;refine jG ?_;refine ih1 (i+1) _ _ ?_ Zo;replace hB:=(hB.ext ab).keep ae ar;replace hM:=(hM.ext ab).kO ae (Zf au);replace hF:=(hF.ext ab).kO ae (Zf al);replace hsl:=hsl.ext ab;replace K0:=(K0.ext ab).new ae an;replace hb:=hb.keep ae aK;refine⟨_,⟨rfl,rfl,rfl,rfl,rfl,trivial⟩,K0,hB,hM,hF,a0,hL',ar,au,al,(Zf aV),an,aS,aT,aU,aW,?_,?_⟩
     ·omega
     ·exact hti'
 ·intro hc18
  refine jG ?_;refine jK func55 ?_;have hil:i=pts.length:=by rw[<-ht.len];omega
  have he:CA (fs.map Al.p) pts []=0:=by rw[hti.err,hil,List.drop_length,CA]
  have hle:=hti.left;rw[hil,Aas]at hle;exact⟨_,rfl,K0,.inr ⟨he,a4,ls,rfl,a0,a2,hle,hti.nodup,(Zf am),(an a4 rfl),av⟩⟩
end Go.Proofs.YtjkaicjmfgekjaaGreatDoor
namespace Go.Proofs.YtjkaicjmfgekjaaGreatDoor
open Go.Proofs.Tryz
attribute [local irreducible] RD RS AA RL RA RT Cz Ai
section
variable {w w':World}{f x:Al}{fs gs rs l1 l2:List Al}{d m:Nat}{room:Int}{n:ByteArray}{pl:List PF}{pts:List B0}{ls ks:List Dg}
def Tj (pts:List B0)(rs:List Al)(x:Al):PF:=if rs.any (fun r=>decide (r.name=x.name))then x.p else C9 pts x.p
theorem MO (h:x.name∈rs.map (·.name)):Tj pts rs x=x.p:=by
 obtain⟨y,hy,e⟩:=List.mem_map.1 h
 rw[Tj,if_pos (List.any_eq_true.2 ⟨y,hy,by simpa using e⟩)]
theorem MP (h:¬x.name∈rs.map (·.name)):Tj pts rs x=C9 pts x.p:=by
 rw[Tj,if_neg]
 intro hc
 obtain⟨y,hy,e⟩:=List.any_eq_true.1 hc
 exact h (List.mem_map.2 ⟨y,hy,by simpa using e⟩)
theorem G1 (ts:List B0)(f:PF):(C9 ts f).name=f.name:=by unfold C9;split<;>rfl
theorem TR (x:Al):(Tj pts rs x).name=x.name:=by
 unfold Tj;split
 ·rfl
 ·exact G1 _ _
theorem crM_zero :fs.map Al.p=fs.map (Tj pts fs):=AaF fun x hx=>by rw[MO (List.mem_map.2 ⟨x,hx,rfl⟩)]
theorem crM_end :fs.map (Tj pts [])=(fs.map Al.p).map (C9 pts):=by rw[Aat];exact AaF fun x _=>by simp[Tj]
theorem DX {j : Nat} (hn : (rs.map (·.name)).Nodup) (hf : rs[j]? = some f) (nm : ByteArray) : nm ∈ (rs.eraseIdx j).map (·.name) ↔ nm ∈ rs.map (·.name) ∧ nm ≠ f.name := by
  induction rs generalizing j with
  | nil => simp at hf
  | cons y l ih =>
    simp only [Aae, AaR] at hn
    cases j with
    | zero =>
      simp only [Ab7, Option.some.injEq] at hf; subst hf
      rw [Acn]
      simp only [Aae, Aai]
      exact ⟨fun h => ⟨.inr h, fun e => hn.1 (e ▸ h)⟩, fun ⟨h, hne⟩ => h.elim (fun e => absurd e hne) id⟩
    | succ j =>
      simp only [Aco] at hf
      rw [Ab8]
      simp only [Aae, Aai, ih hn.2 hf]
      have hy : y.name ≠ f.name := fun e => hn.1 (e ▸ List.mem_map.2 ⟨f, Aan hf, rfl⟩)
      constructor
      · rintro (e | ⟨h1, h2⟩)
        · subst e; exact ⟨.inl rfl, hy⟩
        · exact ⟨.inr h1, h2⟩
      · rintro ⟨h1 | h1, h2⟩
        · exact .inl h1
        · exact .inr ⟨h1, h2⟩
theorem Jl {j:Nat}(hn:(rs.map (·.name)).Nodup):((rs.eraseIdx j).map (·.name)).Nodup:=hn.sublist ((List.eraseIdx_sublist rs j).map _)
theorem RX {j:Nat}(hn:(rs.map (·.name)).Nodup)(hf:rs[j]? =some f){y:Al}(hy:y∈rs.eraseIdx j):y∈rs∧y.name≠f.name:=
 ⟨AbU hy,((DX hn hf y.name).1 (List.mem_map.2 ⟨y,hy,rfl⟩)).2⟩
theorem RY (hn:(fs.map (·.name)).Nodup)(hx:x∈fs)(hf:f∈fs)(e:x.name=f.name):x=f:=by
 obtain⟨i,hi,rfl⟩:=AaG hx
 obtain⟨j,hj,rfl⟩:=AaG hf
 have:=(List.getElem_inj (h₀:=by simpa using hi) (h₁:=by simpa using hj) hn).1 (show(fs.map (·.name))[i]'(by simpa using hi)=(fs.map (·.name))[j]'(by simpa using hj)by simpa using e)
 subst this;rfl
theorem NO {j:Nat}(hfn:(fs.map (·.name)).Nodup)(hgn:(gs.map (·.name)).Nodup)(hn:(rs.map (·.name)).Nodup)(hsub:∀f∈rs,f∈fs)(hf:rs[j]? =some f)(hg:gs=l1++f::l2)(h:gs.map Al.p=fs.map (Tj pts rs))(f':Al)(hp:f'.p=C9 pts f.p):
  (l1++f'::l2).map Al.p=fs.map (Tj pts (rs.eraseIdx j)):=by
 have h1:=Pn (u:=fun _=>f'.p) hgn hg rfl
 have h2:(l1++f'::l2).map Al.p=DF (gs.map Al.p) f.name (fun _=>f'.p):=by rw[h1,Aam,Aae]
 rw[h2,h,DF,Aat]
 have hfm:=Aan hf
 refine AaF fun x hx=> ?_
 simp only[Function.comp,TR]
 by_cases c:x.name=f.name
 ·have:=RY hfn hx (hsub f hfm) c;subst this
  rw[if_pos rfl,MP (fun h=>((DX hn hf _).1 h).2 rfl),hp]
 ·rw[if_neg c]
  by_cases c2:x.name∈rs.map (·.name)
  ·rw[MO c2,MO ((DX hn hf _).2 ⟨c2,c⟩)]
  ·rw[MP c2,MP (fun h=>c2 ((DX hn hf _).1 h).1)]
theorem Kt (hle:ls.map Dg.p=GZ pl pts):ls.map (·.name)=pts.map (·.name):=by
 have:=congrArg (List.map (·.1)) hle
 rw[GZ,Aat,Aat]at this
 exact this
theorem TS (hle:ls.map Dg.p=GZ pl pts)(h:∀x∈ls,x.name≠f.name):(⟨f.name,f.bytes.take f.synced,(f.bytes.take f.synced).length⟩:PF)=C9 pts f.p:=by
 have hno:pts.find? (fun t=>decide (t.name=f.p.name))=none:=by
  rw[Abe]
  intro t ht
  have:t.name∈ls.map (·.name):=by rw[Kt hle];exact List.mem_map.2 ⟨t,ht,rfl⟩
  obtain⟨x,hx,e⟩:=List.mem_map.1 this
  have:=h x hx
  rw[e]at this
  show¬(decide (t.name=f.name)=true)
  simpa using this
 rw[C9,hno];rfl
theorem TT {x:Dg}(hfn:(fs.map (·.name)).Nodup)(hln:(ls.map (·.name)).Nodup)(hle:ls.map Dg.p=GZ (fs.map Al.p) pts)(hf:f∈fs)(hx:x∈ls)(e:x.name=f.name):(⟨f.name,x.bytes,x.bytes.length⟩:PF)=C9 pts f.p:=by
 obtain⟨i,hi,rfl⟩:=AaG hx
 have hl:ls.length=pts.length:=by have:=congrArg List.length hle;simpa[GZ]using this
 have h1:Dg.p ls[i]=QP (fs.map Al.p) (pts[i]'(by omega)):=by
  have:=congrArg (fun l=>l[i]?) hle
  simp only[GZ,Aax,List.getElem?_eq_getElem hi,List.getElem?_eq_getElem (show i<pts.length by omega),AaH,Option.some.injEq]at this
  exact this
 simp only[Dg.p,QP,Prod.mk.injEq]at h1
 obtain⟨h2,h3⟩:=h1
 have hnp:(pts.map (·.name)).Nodup:=by rw[<-Kt hle];exact hln
 have hfind:pts.find? (fun t=>decide (t.name=f.p.name))=some (pts[i]'(by omega)):=by
  have h4:(pts[i]'(by omega)).name=f.p.name:=by rw[<-h2,e];rfl
  rw[List.find?_eq_some_iff_getElem]
  refine⟨by simpa using h4,i,by omega,rfl,fun j hj=> ?_⟩
  simp only[AaO,decide_eq_false_iff_not]
  intro h5
  have:=(List.getElem_inj (h₀:=by simp;omega) (h₁:=by simp;omega) hnp).1 (show(pts.map (·.name))[j]'(by simp;omega)=(pts.map (·.name))[i]'(by simp;omega)by simp only[Ace];rw[h5,h4])
  omega
 rw[C9,hfind]
 have h6:Ci (fs.map Al.p) (pts[i]'(by omega)).name=some f.p:=by rw[<-h2,e];obtain⟨k1,k2,hk⟩:=AbA hf;exact Fa hfn hk rfl
 rw[h6]at h3
 simp only at h3⊢
 rw[<-h3];rfl
theorem tornE_ok : ∀ {ts : List B0} {s : List ByteArray}, CA pl ts s = 0 -> ∀ t ∈ ts, ∃ f, Ci pl t.name = some f ∧ EN f t = true
  | [], _, _, t, ht => by simp at ht
  | t0 :: l, s, h, t, ht => by
    rw [CA] at h
    split at h
    · split at h
      · cases h
      · rename_i f hf
        split at h
        · cases h
        · rename_i hc
          rcases List.mem_cons.1 ht with rfl | ht
          · exact ⟨f, hf, by cases hk : EN f t with | true => rfl | false => exact absurd (.inr hk) hc⟩
          · exact tornE_ok h t ht
    · cases h
theorem MQ {u : PF -> PF} {l : List PF} (h : ∀ f ∈ l, (u f).bytes.length <= f.bytes.length) : AX (l.map u) <= AX l := by
  induction l with
  | nil => exact Aac _
  | cons y l ih =>
    have h1 := h y Zs
    have h2 := ih fun f hf => h f (AaB _ hf)
    rw [AX] at h2 ⊢
    rw [AX] at h2 ⊢
    simp only [Aae, Aa1]
    omega
theorem BV.crash (h:BV room pl):BV room (DO pl pts):=by
 unfold DO
 split
 ·rename_i he
  have hb:∀f∈pl,(C9 pts f).bytes.length<=f.bytes.length∧(C9 pts f).synced=(C9 pts f).bytes.length:=by
   intro f hf
   have hs:=h.sync f hf
   unfold C9
   split
   ·rename_i t ht
    have ht2:t.name=f.name:=by have:=List.find?_some ht;simpa using this
    obtain⟨f0,h1,h2⟩:=tornE_ok he t (Acc ht)
    rw[ht2,Eo h.nodup hf]at h1
    cases h1
    simp only[EN,Aao,decide_eq_true_eq]at h2
    refine⟨?_,rfl⟩
    simp only[DW,Aab,List.length_take]
    omega
   ·exact⟨by simp only[List.length_take];omega,rfl⟩
  refine⟨?_,?_,?_,?_,?_,h.room⟩
  ·rw[Aat,show((·.name)∘C9 pts)=(·.name)from funext fun f=>G1 pts f];exact h.nodup
  ·intro f hf
   obtain⟨g,hg,rfl⟩:=List.mem_map.1 hf
   rw[G1];exact h.may g hg
  ·intro f hf
   obtain⟨g,hg,rfl⟩:=List.mem_map.1 hf
   exact Nat.le_of_eq (hb g hg).2
  ·have:=MQ (u:=C9 pts) (l:=pl) (fun f hf=>(hb f hf).1);have:=h.used;omega
  ·rw[Aad];exact h.len
 ·exact h
theorem RZ (he:CA pl pts []=0):DO pl pts=pl.map (C9 pts):=by rw[DO,if_pos he]
theorem R0 (he:CA pl pts []≠0):DO pl pts=pl:=by rw[DO,if_neg he]
theorem Ku (h:BC gs=BC fs):gs.map (·.name)=fs.map (·.name):=by rw[<-He,<-He,h]
theorem R1 {j:Nat}(hn:(rs.map (·.name)).Nodup)(hf:rs[j]? =some f)(h:∀x∈ls,x.name∈rs.map (·.name)->x∈ks):∀x∈ls,x.name∈(rs.eraseIdx j).map (·.name)->x∈ks:=fun x hx h2=>h x hx ((DX hn hf _).1 h2).1
theorem Pq {j:Nat}{x:Dg}{k1 k2:List Dg}(hn:(rs.map (·.name)).Nodup)(hf:rs[j]? =some f)(h:∀x∈ls,x.name∈rs.map (·.name)->x∈ks)(hk:ks=k1++x::k2)(e:x.name=f.name):∀x∈ls,x.name∈(rs.eraseIdx j).map (·.name)->x∈k1++k2:=fun y hy h2=>by
 obtain⟨h3,h4⟩:=(DX hn hf _).1 h2
 have h5:=h y hy h3
 rw[hk]at h5
 simp only[Aak,Aai]at h5⊢
 rcases h5 with h5|rfl|h5
 ·exact .inl h5
 ·exact absurd e h4
 ·exact .inr h5
theorem NP {j:Nat}{f':Al}(hn:(rs.map (·.name)).Nodup)(hf:rs[j]? =some f)(h:∀f∈rs,f∈gs)(hg:gs=l1++f::l2):∀x∈rs.eraseIdx j,x∈l1++f'::l2:=fun y hy=>by
 obtain⟨h1,h2⟩:=RX hn hf hy
 have h5:=h y h1
 rw[hg]at h5
 simp only[Aak,Aai]at h5⊢
 rcases h5 with h5|rfl|h5
 ·exact .inl h5
 ·exact absurd rfl h2
 ·exact .inr (.inr h5)
end
attribute [local irreducible] X
theorem Ye (d m:Nat)(room:Int)(fs:List Al)(a:Option Addr)(ts:List FB)(c:Nat)(pts:List B0)(w:World)(hD:Bo w d m room fs)(hs:Av w a ts)(ht:FD w ts pts)(hl:ts.length<=4294967295):
  Calls prog 17 #[jp d,.slice a ts.length c] w (AN (fun v w'=>∃fs',v= .int .i64 (CA (fs.map Al.p) pts [])∧Bo w' d m room fs'∧fs'.map Al.p=DO (fs.map Al.p) pts∧(∀q,A9 d m fs' q->q<w.heap.size->A9 d m fs q)∧Ad (A9 d m fs) w w')):=by
 obtain⟨hB,hM,hF,hmd,hfd,hfm,hok⟩:=hD;have hnd:=Bo.names hok;have hlens:=BV.lens hok;have hroom:=hok.room;have hused:=hok.used;have hcnt:=hok.len;rw[Aad]at hcnt;refine Ac (n:=60) func17 rfl rfl rfl ?_;refine jG ?_;refine jR<|jC (QJ d m room fs _ (⟨hB,hM,hF,hmd,hfd,hfm,hok⟩:Bo _ d m room fs)) ?_;rintro _ _ ⟨rfl,rfl⟩;refine jV (Bn (b:=true) rfl) ?_;refine jG ?_;refine Ai.condF rfl ?_;refine jG ?_;refine jR<|jC (ZQ d m room fs _ _ _ pts _ (⟨hB,hM,hF,hmd,hfd,hfm,hok⟩:Bo _ d m room fs) hs ht Zo) ?_;rintro _ bJ ⟨ac,(⟨hne0,rfl⟩|⟨he0,lm,ls,rfl,hLM,hL,hle,hlnd,hpr1,hge1,hge2⟩)⟩
 ·replace hB:=hB.ext ac
  have K0:=(ac:Ap w _).to (S:=(A9 d m fs));refine jG ?_;replace hM:=hM.ext ac;replace hF:=hF.ext ac;refine jF ?_ ?_
  ·intro hc21
   refine jG ?_;refine jJ func17 ?_;exact⟨_,rfl,fs,rfl,⟨hB,hM,hF,hmd,hfd,hfm,hok⟩,by rw[R0 hne0],fun _ h _=>h,K0⟩
  ·intro hc21
   exact absurd hc21 hne0
 ·have bK:=Aw (Bw hge1) hB.lt
  have aQ:=Ah (Bw hge1) hF.oL;have aR:=Aw hge2 hB.lt;have aS:=Ah hge2 hM.oL;have aT:=Ah hge2 hF.oL;have aU:∀q_,BF ls q_->q_<w.heap.size->(A9 d m fs) q_:=Hx (Aac _) hge2;have K0:=(ac:Ap w _).to (S:=(A9 d m fs));refine jG ?_;refine Ai.condF rfl ?_;replace hB:=hB.ext ac;refine jG ?_;replace hM:=hM.ext ac;refine jR<|AA.rangeMap underlying118 rfl hM ?_;intro a0 bL ad aM ae;have aV:=Aw (Bw ad) hB.lt;have aW:=Ah (Bw ad) hM.oL;replace hF:=hF.ext ac;have aX:=Ah (Bw ad) hF.oL;have aY:=Ah (Bw ad) hLM.oL;have aZ:=Ah (Bw ad) hL.oL;have b0:∀q_,one a0 q_->q_<w.heap.size->(A9 d m fs) q_:=Hx K0.size (Bw ad);clear ad;refine jG ?_;replace hB:=hB.ext ae;replace hM:=hM.ext ae;replace hF:=hF.ext ae;replace hLM:=hLM.ext ae;replace hL:=hL.ext ae;replace K0:=K0.ext ae;refine Ai.loop (ι:=Nat) (fun k ρ' w'=>∃rs:List Al,∃gs:List Al,∃ks:List Dg,∃la:Option (ByteArray×Value),Holds ρ' [(5,.map (some lm)),(27,jp a0)]∧Ad (A9 d m fs) w w'∧(AB w' d [.map (some m),.int .i64 room] 120)∧(At w' m (BC fs))∧(At w' lm (Fb ls))∧(B7 w' a0 m (BC rs) la)∧(AV w' gs)∧(B8 w' ks)∧(¬one a0 d)∧(∀q_,one a0 q_->¬one m q_)∧(∀q_,one a0 q_->¬one lm q_)∧(∀q_,one a0 q_->¬AD gs q_)∧(∀q_,one a0 q_->¬BF ks q_)∧(∀q_,one a0 q_->q_<w.heap.size->(A9 d m fs) q_)∧(¬AD gs d)∧(∀q_,AD gs q_->¬one m q_)∧(∀q_,AD gs q_->¬one lm q_)∧(∀q_,AD gs q_->¬BF ks q_)∧(∀q_,AD gs q_->q_<w.heap.size->(A9 d m fs) q_)∧(¬BF ks d)∧(∀q_,BF ks q_->¬one m q_)∧(∀q_,BF ks q_->¬one lm q_)∧(∀q_,BF ks q_->q_<w.heap.size->(A9 d m fs) q_)∧(k=rs.length)∧(BC gs=BC fs)∧(gs.map Al.p=fs.map (Tj pts rs))∧(∀f∈rs,f∈gs)∧(∀x∈ls,x.name∈rs.map (·.name)->x∈ks)∧(∀f∈rs,f∈fs)∧((rs.map (·.name)).Nodup)) (fun k=>k) fs.length ?_ ?_
  ·refine⟨fs,fs,ls,none,⟨rfl,rfl,trivial⟩,K0,hB,hM,hLM,aM,hF,hL,aV,aW,aY,aX,aZ,b0,hfd,hfm,(Zf aQ),(Zf aT),(fun q_ h_ _=>Or.inr (Or.inr h_)),aR,aS,hpr1,aU,?_,?_,?_,?_,?_,?_,?_⟩
   ·rfl
   ·rfl
   ·exact crM_zero
   ·exact fun f h=>h
   ·exact fun x h _=>h
   ·exact fun f h=>h
   ·exact hnd
  clear hB hM hF hLM hL aM;clear K0;rintro k bM bN ⟨rs,gs,ks,la,aN,K0,hB,hM,hLM,a1,ag,a4,aq,ar,au,ah,an,av,ai,aj,ao,ap,ak,aw,ax,ay,az,hk,hge,hgp,hgm,hks,hsub,hrn⟩ ih1;obtain⟨ρ₀,rfl⟩:=aN.ex;clear aN;refine jG ?_;refine jR<|AA.nextMap rfl a1 ?_ ?_
  ·intro h0_46
   replace h0_46:rs=[]:=by simpa[BC]using h0_46
   refine jG ?_;refine Ai.condF rfl ?_;have h0_:=h0_46;refine jG ?_;refine jJ func17 ?_;rw[h0_,crM_end]at hgp;have heq:gs.map Al.p=DO (fs.map Al.p) pts:=by rw[RZ he0];exact hgp
   exact⟨_,rfl,gs,by rw[he0],⟨hB,by rw[hge];exact hM,ag,hmd,ai,aj,by rw[heq];exact hok.crash⟩,heq,Er ak,K0⟩
  ·intro jx bO bP bQ h0_50 aA af
   obtain⟨f,hf,rfl,rfl⟩:=NH h0_50;clear h0_50;rw[Ko]at aA;replace K0:=K0.trans af (fun x hlt hx=>av x hx hlt);replace a1:=aA;clear aA;refine jG ?_;refine C4 ?_;refine jG ?_;refine jV (MF rfl a1) ?_;refine H7 ?_;replace hB:=hB.keep af aq;replace hM:=hM.kO af (Zf ar);replace hLM:=hLM.kO af (Zf au);replace ag:=ag.kO af (Zf ah);replace a4:=a4.kO af (Zf an);by_cases h9:∃x∈ls,x.name=f.name
   ·have hfm_:f∈fs:=hsub f (Aan hf)
    have hfl:=hlens f hfm_;obtain⟨l1,l2,hgs⟩:=AbA (hgm f (Aan hf));obtain⟨hfa,hR,hRf⟩:=ag.openE hgs;obtain⟨hb,ho,hoa⟩:=hfa;have hcp:=ho.le_cap;have bR:f.blk≠d:=fun e_=>ai (by first|(rw[<-e_];exact(By hgs))|rw[<-e_]);have al:¬one m f.blk:=fun h_=>aj _ (By hgs) h_;have aB:¬one lm f.blk:=fun h_=>ao _ (By hgs) h_;have aC:¬one a0 f.blk:=fun h_=>(Zf ah) _ (By hgs) h_;have aO:¬BF ks f.blk:=fun h_=>ap _ (By hgs) h_;have aD:f.blk<w.heap.size->(A9 d m fs) f.blk:=fun hl_=>ak _ (By hgs) hl_;have b1:¬AD (l1++l2) d:=fun h_=>ai ((Bk hgs) _ h_);have b2:∀q_,AD (l1++l2) q_->¬one m q_:=fun q_ h_=>aj q_ ((Bk hgs) q_ h_);have b3:∀q_,AD (l1++l2) q_->¬one lm q_:=fun q_ h_=>ao q_ ((Bk hgs) q_ h_);have b4:∀q_,AD (l1++l2) q_->¬one a0 q_:=fun q_ h_=>(Zf ah) q_ ((Bk hgs) q_ h_);have aP:∀q_,AD (l1++l2) q_->¬BF ks q_:=fun q_ h_=>ap q_ ((Bk hgs) q_ h_);obtain⟨x,hxl,hxn⟩:=h9;obtain⟨k1,k2,hkk⟩:=AbA (hks x hxl (by rw[hxn];exact List.mem_map.2 ⟨f,Aan hf,rfl⟩));obtain⟨hx,hL2,hLx⟩:=a4.openE hkk;have b5:¬own x.a d:=fun h_=>aw ((Es hkk) _ h_);have b6:∀q_,own x.a q_->¬one m q_:=fun q_ h_=>ax q_ ((Es hkk) q_ h_);have b7:∀q_,own x.a q_->¬one lm q_:=fun q_ h_=>ay q_ ((Es hkk) q_ h_);have b8:∀q_,own x.a q_->¬one a0 q_:=fun q_ h_=>(Zf an) q_ ((Es hkk) q_ h_);have aE:¬own x.a f.blk:=fun h_=>aO ((Es hkk) _ h_);have b9:∀q_,own x.a q_->¬AD (l1++l2) q_:=fun q_ h_=>(Zf aP) q_ ((Es hkk) q_ h_);have ba:¬BF (k1++k2) d:=fun h_=>aw ((Et hkk) _ h_);have bb:∀q_,BF (k1++k2) q_->¬one m q_:=fun q_ h_=>ax q_ ((Et hkk) q_ h_);have bc:∀q_,BF (k1++k2) q_->¬one lm q_:=fun q_ h_=>ay q_ ((Et hkk) q_ h_);have be:∀q_,BF (k1++k2) q_->¬one a0 q_:=fun q_ h_=>(Zf an) q_ ((Et hkk) q_ h_);have aF:¬BF (k1++k2) f.blk:=fun h_=>aO ((Et hkk) _ h_);have bg:∀q_,BF (k1++k2) q_->¬AD (l1++l2) q_:=fun q_ h_=>(Zf aP) q_ ((Et hkk) q_ h_);refine jG ?_;refine jV (C7 (v':= .tuple #[.slice x.a x.bytes.length x.cap,.bool true]) (BA underlying115 underlying9 rfl ty98 rfl rfl hLM) (by rw[NL hlnd hxl hxn];rfl)) ?_;refine H7 ?_;refine Em ?_;refine jV (Bn (b:=true) rfl) ?_;refine jG ?_;refine Ai.condF rfl ?_;refine jG ?_;refine jR<|jS hb ?_;intro bS hb a5;replace hx:=hx.kO a5 (Aa aE);replace K0:=K0.trans a5 (fun x hlt hx=>by simp only[one]at hx;subst hx;exact aD hlt);refine jG ?_;refine jR<|jS hb ?_;intro bh hb a6;replace hx:=hx.kO a6 (Aa aE);replace K0:=K0.trans a6 (fun x hlt hx=>by simp only[one]at hx;subst hx;exact aD hlt);refine jG ?_;replace hR:=(hR.kO a5 (Zx (fun h_=>hRf _ h_ (Or.inl rfl)))).kO a6 (Zx (fun h_=>hRf _ h_ (Or.inl rfl)));have hF':AV bh (l1++(⟨f.name,f.blk,x.a,x.cap,x.bytes,x.bytes.length⟩:Al)::l2):=AV.close ⟨hb,hx,aE⟩ hR (fun q_ h1 h2=>h2.elim (fun e_=>(fun h_=>hRf _ h_ (Or.inl rfl)) (show AD (l1++l2) f.blk from(show q_=f.blk from e_)▸h1)) (fun y_=>(Zf b9) q_ h1 y_));have bi:¬AD (l1++(⟨f.name,f.blk,x.a,x.cap,x.bytes,x.bytes.length⟩:Al)::l2) d:=fun x_=>(Bh _ x_).elim (fun e_=>absurd e_ Zo) (fun y_=>y_.elim b5 (fun y_=>b1 y_));have bj:∀q_,AD (l1++(⟨f.name,f.blk,x.a,x.cap,x.bytes,x.bytes.length⟩:Al)::l2) q_->¬one m q_:=fun q_ x_ z_=>(Bh _ x_).elim (fun e_=>al (show one m f.blk from e_▸z_)) (fun y_=>y_.elim (fun y_=>b6 q_ y_ z_) (fun y_=>(fun y_=>b2 q_ y_ z_) y_))
    have bk:∀q_,AD (l1++(⟨f.name,f.blk,x.a,x.cap,x.bytes,x.bytes.length⟩:Al)::l2) q_->¬one lm q_:=fun q_ x_ z_=>(Bh _ x_).elim (fun e_=>aB (show one lm f.blk from e_▸z_)) (fun y_=>y_.elim (fun y_=>b7 q_ y_ z_) (fun y_=>(fun y_=>b3 q_ y_ z_) y_));have bl:∀q_,AD (l1++(⟨f.name,f.blk,x.a,x.cap,x.bytes,x.bytes.length⟩:Al)::l2) q_->¬one a0 q_:=fun q_ x_ z_=>(Bh _ x_).elim (fun e_=>aC (show one a0 f.blk from e_▸z_)) (fun y_=>y_.elim (fun y_=>b8 q_ y_ z_) (fun y_=>(fun y_=>b4 q_ y_ z_) y_));have bm:∀q_,AD (l1++(⟨f.name,f.blk,x.a,x.cap,x.bytes,x.bytes.length⟩:Al)::l2) q_->¬BF (k1++k2) q_:=fun q_ x_ z_=>(Bh _ x_).elim (fun e_=>aF (show BF (k1++k2) f.blk from e_▸z_)) (fun y_=>y_.elim (fun y_=>(Zf hLx) q_ y_ z_) (fun y_=>(fun y_=>(Zf bg) q_ y_ z_) y_));have bn:∀q_,AD (l1++(⟨f.name,f.blk,x.a,x.cap,x.bytes,x.bytes.length⟩:Al)::l2) q_->q_<w.heap.size->(A9 d m fs) q_:=fun q_ x_ hl_=>(Bh _ x_).elim (fun e_=>e_▸aD (e_▸hl_)) (fun y_=>y_.elim (fun y_=>(fun q_ h_ hl_=>az q_ ((Es hkk) q_ h_) hl_) q_ y_ hl_) (fun y_=>(fun y_=>(fun q_ h_ hl_=>ak q_ ((Bk hgs) q_ h_) hl_) q_ y_ hl_) y_));have hents:BC (l1++(⟨f.name,f.blk,x.a,x.cap,x.bytes,x.bytes.length⟩:Al)::l2)=BC fs:=(If hgs _ _ _ _).symm.trans hge;have hgp':=NO hnd (by rw[Ku hge];exact hnd) hrn hsub hf hgs hgp (⟨f.name,f.blk,x.a,x.cap,x.bytes,x.bytes.length⟩:Al) (TT hnd hlnd hle hfm_ hxl hxn);have hgm':=NP (f':=(⟨f.name,f.blk,x.a,x.cap,x.bytes,x.bytes.length⟩:Al)) hrn hf hgm hgs;have hks':=Pq hrn hf hks hkk hxn;refine ih1 ((rs.eraseIdx jx).length) _ _ ?_ (by rw[hk];exact Kp hf);replace hB:=(hB.kp a5).kp a6;replace hM:=(hM.kO a5 (Aa al)).kO a6 (Aa al);replace hLM:=(hLM.kO a5 (Aa aB)).kO a6 (Aa aB);replace a1:=(a1.kO a5 (Aa aC) (Aa al)).kO a6 (Aa aC) (Aa al);replace ho:=(ho.kO a5 (Aa hoa)).kO a6 (Aa hoa);replace hL2:=(hL2.kO a5 (Aa aF)).kO a6 (Aa aF);refine⟨rs.eraseIdx jx,(l1++(⟨f.name,f.blk,x.a,x.cap,x.bytes,x.bytes.length⟩:Al)::l2),(k1++k2),_,⟨rfl,rfl,trivial⟩,K0,hB,hM,hLM,a1,hF',hL2,aq,ar,au,(Zf bl),(Zf be),av,bi,bj,bk,bm,bn,ba,bb,bc,(fun q_ h_ hl_=>az q_ ((Et hkk) q_ h_) hl_),?_,?_,?_,?_,?_,?_,?_⟩
    ·rfl
    ·exact hents
    ·exact hgp'
    ·exact hgm'
    ·exact hks'
    ·exact fun f h=>hsub f (AbU h)
    ·exact Jl hrn
   ·have hfm_:f∈fs:=hsub f (Aan hf)
    have hfl:=hlens f hfm_;obtain⟨l1,l2,hgs⟩:=AbA (hgm f (Aan hf));obtain⟨hfa,hR,hRf⟩:=ag.openE hgs;obtain⟨hb,ho,hoa⟩:=hfa;have hcp:=ho.le_cap;have bT:f.blk≠d:=fun e_=>ai (by first|(rw[<-e_];exact(By hgs))|rw[<-e_]);have am:¬one m f.blk:=fun h_=>aj _ (By hgs) h_;have aG:¬one lm f.blk:=fun h_=>ao _ (By hgs) h_;have aH:¬one a0 f.blk:=fun h_=>(Zf ah) _ (By hgs) h_;have aI:¬BF ks f.blk:=fun h_=>ap _ (By hgs) h_;have aJ:f.blk<w.heap.size->(A9 d m fs) f.blk:=fun hl_=>ak _ (By hgs) hl_;have bo:¬AD (l1++l2) d:=fun h_=>ai ((Bk hgs) _ h_);have bp:∀q_,AD (l1++l2) q_->¬one m q_:=fun q_ h_=>aj q_ ((Bk hgs) q_ h_);have bq:∀q_,AD (l1++l2) q_->¬one lm q_:=fun q_ h_=>ao q_ ((Bk hgs) q_ h_);have bs:∀q_,AD (l1++l2) q_->¬one a0 q_:=fun q_ h_=>(Zf ah) q_ ((Bk hgs) q_ h_);have bt:∀q_,AD (l1++l2) q_->¬BF ks q_:=fun q_ h_=>ap q_ ((Bk hgs) q_ h_);have hxno:∀x∈ls,x.name≠f.name:=fun x hx e=>h9 ⟨x,hx,e⟩;refine jG ?_;refine jV (C7 (v':= .tuple #[.slice none 0 0,.bool false]) (BA underlying115 underlying9 rfl ty98 rfl rfl hLM) (by rw[NK hxno];rfl)) ?_;refine H7 ?_;refine Em ?_;refine jV (Bn (b:=false) rfl) ?_;refine jG ?_;refine C4 ?_;have htl:=List.length_take (i:=f.synced) (l:=f.bytes);refine Ai.drawS [] [0,1,2,1003,4,5,6,1007,8,2009,10] ?_;intro bU a7;replace hb:=hb.ext a7;refine jM (jb hb Jn) ?_;refine jG ?_;refine jP ?_ (hx:=by exact fun _=>(HB (m':=(f.bytes.take f.synced).length) (BX underlying98 ty5 rfl rfl Zo) Zt));replace ho:=ho.ext a7;refine jU rfl<|jC (Kr _ _ _ _ (ho.sl.take f.synced) Zo) ?_;rintro _ bV ⟨a2,a3,rfl,aK,a8,a9⟩;replace hB:=hB.ext a7;have bu:=Aw a8 hB.lt;replace hM:=hM.ext a7;have bv:=Ah a8 hM.oL;replace hLM:=hLM.ext a7;have bw:=Ah a8 hLM.oL;replace a1:=a1.ext a7;have bx:=Ah a8 a1.oL;replace a4:=a4.ext a7;have bz:=Ah a8 a4.oL;have aL:=Aw a8 hb.lt;replace hR:=hR.ext a7;have bA:=Ah a8 hR.oL;replace K0:=K0.ext a7;have bB:∀q_,own a2 q_->q_<w.heap.size->(A9 d m fs) q_:=Hx K0.size a8;clear a8;replace hb:=hb.ext a9;refine jG ?_;refine jR<|jS hb ?_;intro bW hb aa;replace K0:=K0.ext a9;replace K0:=K0.trans aa (fun x hlt hx=>by simp only[one]at hx;subst hx;exact aJ hlt);refine jG ?_;refine jR<|jS hb ?_;intro bC hb ab;replace K0:=K0.trans ab (fun x hlt hx=>by simp only[one]at hx;subst hx;exact aJ hlt);refine jG ?_;replace hR:=((hR.ext a9).kO aa (Zx (fun h_=>hRf _ h_ (Or.inl rfl)))).kO ab (Zx (fun h_=>hRf _ h_ (Or.inl rfl)));replace aK:=(aK.kO aa (Aa aL)).kO ab (Aa aL);have hF':AV bC (l1++(⟨f.name,f.blk,a2,a3,f.bytes.take f.synced,(f.bytes.take f.synced).length⟩:Al)::l2):=AV.close ⟨hb,aK,aL⟩ hR (fun q_ h1 h2=>h2.elim (fun e_=>(fun h_=>hRf _ h_ (Or.inl rfl)) (show AD (l1++l2) f.blk from(show q_=f.blk from e_)▸h1)) (fun y_=>(Zf bA) q_ h1 y_));have bD:¬AD (l1++(⟨f.name,f.blk,a2,a3,f.bytes.take f.synced,(f.bytes.take f.synced).length⟩:Al)::l2) d:=fun x_=>(Bh _ x_).elim (fun e_=>absurd e_ Zo) (fun y_=>y_.elim bu (fun y_=>bo y_));have bE:∀q_,AD (l1++(⟨f.name,f.blk,a2,a3,f.bytes.take f.synced,(f.bytes.take f.synced).length⟩:Al)::l2) q_->¬one m q_:=fun q_ x_ z_=>(Bh _ x_).elim (fun e_=>am (show one m f.blk from e_▸z_)) (fun y_=>y_.elim (fun y_=>bv q_ y_ z_) (fun y_=>(fun y_=>bp q_ y_ z_) y_));have bF:∀q_,AD (l1++(⟨f.name,f.blk,a2,a3,f.bytes.take f.synced,(f.bytes.take f.synced).length⟩:Al)::l2) q_->¬one lm q_:=fun q_ x_ z_=>(Bh _ x_).elim (fun e_=>aG (show one lm f.blk from e_▸z_)) (fun y_=>y_.elim (fun y_=>bw q_ y_ z_) (fun y_=>(fun y_=>bq q_ y_ z_) y_))
    have bG:∀q_,AD (l1++(⟨f.name,f.blk,a2,a3,f.bytes.take f.synced,(f.bytes.take f.synced).length⟩:Al)::l2) q_->¬one a0 q_:=fun q_ x_ z_=>(Bh _ x_).elim (fun e_=>aH (show one a0 f.blk from e_▸z_)) (fun y_=>y_.elim (fun y_=>bx q_ y_ z_) (fun y_=>(fun y_=>bs q_ y_ z_) y_));have bH:∀q_,AD (l1++(⟨f.name,f.blk,a2,a3,f.bytes.take f.synced,(f.bytes.take f.synced).length⟩:Al)::l2) q_->¬BF ks q_:=fun q_ x_ z_=>(Bh _ x_).elim (fun e_=>aI (show BF ks f.blk from e_▸z_)) (fun y_=>y_.elim (fun y_=>bz q_ y_ z_) (fun y_=>(fun y_=>bt q_ y_ z_) y_));have bI:∀q_,AD (l1++(⟨f.name,f.blk,a2,a3,f.bytes.take f.synced,(f.bytes.take f.synced).length⟩:Al)::l2) q_->q_<w.heap.size->(A9 d m fs) q_:=fun q_ x_ hl_=>(Bh _ x_).elim (fun e_=>e_▸aJ (e_▸hl_)) (fun y_=>y_.elim (fun y_=>bB q_ y_ hl_) (fun y_=>(fun y_=>(fun q_ h_ hl_=>ak q_ ((Bk hgs) q_ h_) hl_) q_ y_ hl_) y_));have hents:BC (l1++(⟨f.name,f.blk,a2,a3,f.bytes.take f.synced,(f.bytes.take f.synced).length⟩:Al)::l2)=BC fs:=(If hgs _ _ _ _).symm.trans hge;have hgp':=NO hnd (by rw[Ku hge];exact hnd) hrn hsub hf hgs hgp (⟨f.name,f.blk,a2,a3,f.bytes.take f.synced,(f.bytes.take f.synced).length⟩:Al) (TS hle hxno);have hgm':=NP (f':=(⟨f.name,f.blk,a2,a3,f.bytes.take f.synced,(f.bytes.take f.synced).length⟩:Al)) hrn hf hgm hgs;have hks':=R1 hrn hf hks;refine ih1 ((rs.eraseIdx jx).length) _ _ ?_ (by rw[hk];exact Kp hf);replace hB:=((hB.ext a9).kp aa).kp ab;replace hM:=((hM.ext a9).kO aa (Aa am)).kO ab (Aa am);replace hLM:=((hLM.ext a9).kO aa (Aa aG)).kO ab (Aa aG);replace a1:=((a1.ext a9).kO aa (Aa aH) (Aa am)).kO ab (Aa aH) (Aa am);replace a4:=((a4.ext a9).kO aa (Aa aI)).kO ab (Aa aI);replace ho:=((ho.ext a9).kO aa (Aa hoa)).kO ab (Aa hoa);refine⟨rs.eraseIdx jx,(l1++(⟨f.name,f.blk,a2,a3,f.bytes.take f.synced,(f.bytes.take f.synced).length⟩:Al)::l2),ks,_,⟨rfl,rfl,trivial⟩,K0,hB,hM,hLM,a1,hF',a4,aq,ar,au,(Zf bG),an,av,bD,bE,bF,bH,bI,aw,ax,ay,az,?_,?_,?_,?_,?_,?_,?_⟩
    ·rfl
    ·exact hents
    ·exact hgp'
    ·exact hgm'
    ·exact hks'
    ·exact fun f h=>hsub f (AbU h)
    ·exact Jl hrn
end Go.Proofs.YtjkaicjmfgekjaaGreatDoor
namespace Go.Proofs.YtjkaicjmfgekjaaGreatDoor
open Go.Proofs.Tryz
attribute [local irreducible] RD RS AA RL RA RT Cz Ai
end Go.Proofs.YtjkaicjmfgekjaaGreatDoor
namespace Go.Proofs.YtjkaicjmfgekjaaGreatDoor
open Go.Proofs.Tryz
attribute [local irreducible] RD RS AA RL RA RT Cz Ai
theorem Eb {P:Program}{f:FuncId}{args:Array Value}{w:World}{Φ Ψ:Value->World->Prop}(h:Calls P f args w (AN Φ))(hh:∀v w',Φ v w'->Ψ v w'):Calls P f args w (AN Ψ):=
 h.mono fun _ _ ⟨v,e,hv⟩=>⟨v,e,hh v _ hv⟩
def FE (d:Nat)(F:Nat->Prop)(room:Int)(w:World)(E:Int)(L:List PF):Value->World->Prop:=fun v w'=>∃F',v= .int .i64 E∧AG w' d F' room L∧AL w F F'∧Ad F w w'
theorem NQ {w w':World}{d m:Nat}{room:Int}{fs:List Al}{E E':Int}{L L':List PF}{v:Value}
  (h:∃fs',v= .int .i64 E∧Bo w' d m room fs'∧(fs'.map Al.p).Perm L∧(∀q,A9 d m fs' q->q<w.heap.size->A9 d m fs q)∧Ad (A9 d m fs) w w') (e:E=E') (p:L.Perm L'):FE d (A9 d m fs) room w E' L' v w':=by
 obtain⟨fs',rfl,h1,h2,h3,h4⟩:=h
 subst e
 exact⟨_,rfl,⟨m,fs',rfl,h2.trans p,h1⟩,LQ h3,h4⟩
theorem Ig {w w':World}{d m:Nat}{room:Int}{fs:List Al}{E E':Int}{L L':List PF}{v:Value}
  (h:∃fs',v= .int .i64 E∧Bo w' d m room fs'∧fs'.map Al.p=L∧(∀q,A9 d m fs' q->q<w.heap.size->A9 d m fs q)∧Ad (A9 d m fs) w w') (e:E=E') (p:L.Perm L'):FE d (A9 d m fs) room w E' L' v w':=by
 obtain⟨fs',h0,h1,h2,h3⟩:=h
 exact NQ ⟨fs',h0,h1,h2▸List.Perm.refl _,h3⟩ e p
theorem Gx {pl pl':List PF}(p:pl.Perm pl')(n:ByteArray):CL pl n=CL pl' n:=by rw[CL,CL,F4 p]
theorem R2 {pl pl':List PF}(p:pl.Perm pl')(n to:ByteArray):ET pl n to=ET pl' n to:=by rw[ET,ET,F4 p]
def AY (pl:List PF)(n:ByteArray):List UInt8:=((Ci pl n).map (·.bytes)).getD []
def CY (pl:List PF)(n:ByteArray):Nat:=((Ci pl n).map (·.bytes.length)).getD 0
def Ec (pl:List PF)(n:ByteArray):Nat:=((Ci pl n).map (·.synced)).getD 0
section
variable {w :World}{d:Nat}{F:Nat->Prop}{room:Int}{pl:List PF}
theorem TU (h:AG w d F room pl)(name:ByteArray)(a:Option Addr)(b:List UInt8)(c:Nat)(hs:name.size<=4294967295)(hsl:Av w a b)(hdis:∀x,a=some x->b≠ []->¬F x.block)(hbl:b.length<=4294967295):
  Calls prog 95 #[jp d,.string name,.slice a b.length c] w (AN (FE d F room w (De room pl name b) (Df room pl name b))):=by
 obtain⟨m,fs,rfl,hp,hO⟩:=h
 exact Eb (append_ d m room fs name a b c w hO hs hsl hdis hbl) fun v w' h=>Ig h (LM hp name b) (RN hp name b)
theorem JL (h:AG w d F room pl)(name:ByteArray)(a:Option Addr)(b:List UInt8)(c:Nat)(hs:name.size<=4294967295)(hsl:Av w a b)(hdis:∀x,a=some x->¬F x.block)(hbl:b.length<=4294967295):
  Calls prog 95 #[jp d,.string name,.slice a b.length c] w (AN (FE d F room w (De room pl name b) (Df room pl name b))):=
 TU h name a b c hs hsl (fun x hx _=>hdis x hx) hbl
theorem NR (h:AG w d F room pl)(name:ByteArray)(hs:name.size<=4294967295):Calls prog 93 #[jp d,.string name] w (AN (FE d F room w (CL pl name) (Cd pl name))):=by
 obtain⟨m,fs,rfl,hp,hO⟩:=h
 exact Eb (ZP d m room fs name w hO hs) fun v w' h=>Ig h (Gx hp name) (LN hp name _)
theorem V6 (h:AG w d F room pl)(name to:ByteArray)(hs:name.size<=4294967295)(hs2:to.size<=4294967295):Calls prog 189 #[jp d,.string name,.string to] w (AN (FE d F room w (ET pl name to) (Hy pl name to))):=by
 obtain⟨m,fs,rfl,hp,hO⟩:=h
 exact Eb (V1 d m room fs name to w hO hs hs2) fun v w' h=>NQ h (R2 hp name to) (RO hO.ok.nodup hp name to)
theorem JM (h:AG w d F room pl)(name:ByteArray)(hs:name.size<=4294967295):Calls prog 112 #[jp d,.string name] w (AN (FE d F room w (CL pl name) (Bp pl name))):=by
 obtain⟨m,fs,rfl,hp,hO⟩:=h
 exact Eb (V0 d m room fs name w hO hs) fun v w' h=>Ig h (Gx hp name) (IL hp name)
theorem Yf (h:AG w d F room pl)(a:Option Addr)(ts:List FB)(c:Nat)(pts:List B0)(hs:Av w a ts)(ht:FD w ts pts)(hl:ts.length<=4294967295):
  Calls prog 17 #[jp d,.slice a ts.length c] w (AN (FE d F room w (CA pl pts []) (DO pl pts))):=by
 obtain⟨m,fs,rfl,hp,hO⟩:=h
 exact Eb (Ye d m room fs a ts c pts w hO hs ht hl) fun v w' h=>Ig h (HP hO.ok.nodup hp pts []) (NF hO.ok.nodup hp pts)
theorem ZR (h:AG w d F room pl)(name:ByteArray)(hs:name.size<=4294967295):Calls prog 176 #[jp d,.string name] w
  (AN fun v w'=>∃a' c',v= .tuple #[.slice a' (AY pl name).length c',.int .i64 (CL pl name)]∧Af w' 5 a' c' (AY pl name)∧(∀b,own a' b->w.heap.size<=b)∧Ap w w'):=by
 obtain⟨m,fs,rfl,hp,hO⟩:=h
 refine Eb (ZN d m room fs name w hO hs) fun v w' h=> ?_
 obtain⟨a',c',bs,rfl,h1,h2,h3,h4⟩:=h
 have e:bs=AY pl name:=by rw[h3,AY,Gw hO.ok.nodup hp]
 subst e
 exact⟨a',c',by rw[Gx hp],h1,h2,h4⟩
theorem XH (h:AG w d F room pl)(name:ByteArray)(hs:name.size<=4294967295):Calls prog 58 #[jp d,.string name] w
  (AN fun v w'=>v= .tuple #[.int .i64 ((CY pl name:Nat):Int),.int .i64 ((Ec pl name:Nat):Int),.int .i64 (CL pl name)]∧Ap w w'):=by
 obtain⟨m,fs,rfl,hp,hO⟩:=h
 refine Eb (ZO d m room fs name w hO hs) fun v w' h=> ?_
 obtain⟨rfl,h⟩:=h
 exact⟨by rw[Gx hp,Gw hO.ok.nodup hp];rfl,h⟩
end
theorem gE (room:Int)(w:World):Calls prog 25 #[.int .i64 room] w (AN fun v w'=>(¬(0<=room∧room<=16777216)∧v= .tuple #[.pointer none,.int .i64 1]∧Ap w w')∨
  ((0<=room∧room<=16777216)∧∃d F,v= .tuple #[jp d,.int .i64 0]∧AG w' d F room []∧(∀q,F q->w.heap.size<=q)∧Ap w w')):=by
 refine Eb (gD room w) fun v w' h=> ?_
 rcases h with h|⟨h1,d,m,h2,h3,h4,h5⟩
 ·exact .inl h
 ·exact .inr ⟨h1,d,_,h2,⟨m,[],rfl,List.Perm.refl _,h3⟩,h4,h5⟩
theorem EE {d:Nat}{F:Nat->Prop}{room:Int}{w:World}{E E':Int}{L L':List PF}{f:FuncId}{args:Array Value}(h:Calls prog f args w (AN (FE d F room w E L)))(e:E=E')(p:L=L'):Calls prog f args w (AN (FE d F room w E' L')):=by subst e;subst p;exact h
structure gF where
 op:Int
 name:ByteArray
 other:ByteArray
 bytes:List UInt8
 tears:List B0
structure ZE where
 op:Int
 name:ByteArray
 other:ByteArray
 bytes:SH
 tears:SH
instance : Enc ZE:=Enc.struct (fun t=>[.int .i64 t.op,.string t.name,.string t.other,.slice t.bytes.a t.bytes.len t.bytes.cap,.slice t.tears.a t.tears.len t.tears.cap]) 5 (fun _=>rfl) (fun _ v hv=>by simp at hv;rcases hv with rfl|rfl|rfl|rfl|rfl<;>rfl) Zd
structure V7 (w:World)(o:ZE)(b:List UInt8)(pts:List B0):Prop where
 bl:o.bytes.len=b.length
 bs:Av w o.bytes.a b
 ts:∃ts:List FB,o.tears.len=ts.length∧Av w o.tears.a ts∧FD w ts pts
 size:o.name.size<=4294967295∧o.other.size<=4294967295∧b.length<=4294967295∧pts.length<=4294967295
theorem V7.ext {w w':World}{o:ZE}{b:List UInt8}{pts:List B0}(h:V7 w o b pts)(k:Ap w w'):V7 w' o b pts:=
 ⟨h.bl,h.bs.ext k,by obtain⟨ts,h1,h2,h3⟩:=h.ts;exact⟨ts,h1,h2.ext k,h3.ext k⟩,h.size⟩
structure TV (w:World)(l:List ZE)(ps:List gF):Prop where
 len:l.length=ps.length
 all:∀(i:Nat) (o:ZE) (p:gF),l[i]? =some o->ps[i]? =some p->∃b pts,p=⟨o.op,o.name,o.other,b,pts⟩∧V7 w o b pts
theorem TV.ext {w w':World}{l:List ZE}{ps:List gF}(h:TV w l ps)(k:Ap w w'):TV w' l ps:=
 ⟨h.len,fun i o p h1 h2=>by obtain⟨b,pts,e,h3⟩:=h.all i o p h1 h2;exact⟨b,pts,e,h3.ext k⟩⟩
end Go.Proofs.YtjkaicjmfgekjaaGreatDoor
