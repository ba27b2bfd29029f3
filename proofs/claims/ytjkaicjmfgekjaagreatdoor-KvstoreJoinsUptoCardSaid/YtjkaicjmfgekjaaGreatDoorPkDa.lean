/-
  Da, Db, Dc
-/
import Derived.Test.YtjkaicjmfgekjaaGreatDoorRows
import Derived.Test.YtjkaicjmfgekjaaGreatDoorPkMap
import Derived.Test.YtjkaicjmfgekjaaGreatDoorPkPlain
import Derived.Test.YtjkaicjmfgekjaaGreatDoorPkI
set_option linter.all false
set_option maxRecDepth 100000
set_option maxHeartbeats 4000000
namespace Go.Proofs.YtjkaicjmfgekjaaGreatDoor
open Go.Proofs.Tryz
attribute [local irreducible] RD RS Av RL RA RT CJ Aj
structure PF where
 name:ByteArray
 bytes:List UInt8
 synced:Nat
def SI (c:UInt8):Bool:=decide (c.toNat=46∨c.toNat=45∨c.toNat=95∨(48≤c.toNat∧c.toNat≤57)∨(97≤c.toNat∧c.toNat≤122)∨(65≤c.toNat∧c.toNat≤90))
def Cr (s:ByteArray):Bool:=s.data.toList.all SI&&(decide (s.size≠0)&&decide (s.size≤32))
def AX (pl:List PF):Nat:=(pl.map (·.bytes.length)).sum
def B7 (pl:List PF)(n:ByteArray):Bool:=pl.any (fun f=>decide (f.name=n))
def Cs (pl:List PF)(n:ByteArray):Option PF:=pl.find? (fun f=>decide (f.name=n))
def Cb (pl:List PF)(n:ByteArray):Int:=if Cr n then(if B7 pl n then 0 else 20)else 6
def DS (pl:List PF)(n:ByteArray)(u:PF→PF):List PF:=pl.map fun f=>if f.name=n then u f else f
def CN (room:Int)(pl:List PF)(n:ByteArray)(b:List UInt8):Int:=
 if Cr n then(if (B7 pl n=false∧64≤pl.length)∨room-(AX pl:Int)<(b.length:Int)then 7 else 0)else 6
def CH (room:Int)(pl:List PF)(n:ByteArray)(b:List UInt8):List PF:=
 if CN room pl n b=0 then(if B7 pl n then DS pl n (fun f=>{f with bytes:=f.bytes++b})else pl++[⟨n,b,0⟩])else pl
def Cj (pl:List PF)(n:ByteArray):List PF:=DS pl n (fun f=>{f with synced:=f.bytes.length})
def A3 (pl:List PF)(n:ByteArray):List PF:=pl.filter (fun f=>decide (f.name≠n))
def Ez (pl:List PF)(n to:ByteArray):Int:=if Cr n then(if Cr to then(if B7 pl n then 0 else 20)else 6)else 6
def Gi (pl:List PF)(n to:ByteArray):List PF:=if Ez pl n to=0 then(match Cs pl n with|some f=>A3 (A3 pl n) to++[{f with name:=to}]|none=>pl)else pl
structure CZ where
 name:ByteArray
 keep:Int
 junk:List UInt8
def QH (f:PF)(t:CZ):Bool:=decide (0≤t.keep)&&(decide (t.keep≤(f.bytes.length:Int)-f.synced)&&decide ((t.junk.length:Int)≤(f.bytes.length:Int)-f.synced-t.keep))
def IM (pl : List PF) : List CZ → List ByteArray → Int
  | [], _ => 0
  | t :: l, seen => if Cr t.name then (match Cs pl t.name with
    | none => 20
    | some f => if seen.any (fun s => decide (s = t.name)) = true ∨ QH f t = false then 21 else IM pl l (t.name :: seen)) else 6
def Oh (f:PF)(t:CZ):List UInt8:=f.bytes.take (f.synced+t.keep.toNat)++t.junk
def QI (ts:List CZ)(f:PF):PF:=match ts.find? (fun t=>decide (t.name=f.name))with
 |some t=>⟨f.name,Oh f t,(Oh f t).length⟩
 |none=>⟨f.name,f.bytes.take f.synced,(f.bytes.take f.synced).length⟩
def UH (pl:List PF)(ts:List CZ):List PF:=if IM pl ts []=0 then pl.map (QI ts)else pl
structure BK (room:Int)(pl:List PF):Prop where
 nodup:(pl.map (·.name)).Nodup
 may:∀f∈pl,Cr f.name=true
 sync:∀f∈pl,f.synced≤f.bytes.length
 used:(AX pl:Int)≤room
 len:pl.length≤64
 room:0≤room∧room≤16777216
theorem BK.perm {room:Int}{pl pl':List PF}(h:BK room pl)(p:pl.Perm pl'):BK room pl':=
 ⟨(p.map _).nodup_iff.1 h.nodup,fun f hf=>h.may f (p.mem_iff.2 hf),fun f hf=>h.sync f (p.mem_iff.2 hf),by rw[AX,←(p.map _).sum_nat];exact h.used,by rw[←p.length_eq];exact h.len,h.room⟩
theorem Ba {pl:List PF}{n:ByteArray}:B7 pl n=true↔∃f∈pl,f.name=n:=by simp[B7]
theorem Nd {pl:List PF}{n:ByteArray}(h:∀f∈pl,f.name≠n):B7 pl n=false:=by
 rw[Bool.eq_false_iff];intro e;obtain⟨f,hf,e⟩:=Ba.1 e;exact h f hf e
theorem EV {pl pl':List PF}{n:ByteArray}(p:pl.Perm pl'):B7 pl n=B7 pl' n:=by
 rw[Bool.eq_iff_iff,Ba,Ba]
 exact⟨fun⟨f,h,e⟩=>⟨f,p.mem_iff.1 h,e⟩,fun⟨f,h,e⟩=>⟨f,p.mem_iff.2 h,e⟩⟩
theorem Nf {pl pl':List PF}(p:pl.Perm pl'):AX pl=AX pl':=(p.map _).sum_nat
theorem JU {pl : List PF} {f : PF} (h : f ∈ pl) : f.bytes.length ≤ AX pl := by
  induction pl with
  | nil => cases h
  | cons x l ih =>
    rw [AX, List.map_cons, List.sum_cons]
    rcases List.mem_cons.1 h with rfl | h
    · omega
    · have := ih h; rw [AX] at this; omega
theorem Hp {pl : List PF} (hn : (pl.map (·.name)).Nodup) {f : PF} (h : f ∈ pl) : Cs pl f.name = some f := by
  induction pl with
  | nil => cases h
  | cons x l ih =>
    simp only [List.map_cons, List.nodup_cons] at hn
    rw [Cs, List.find?_cons]
    rcases List.mem_cons.1 h with rfl | h
    · simp
    · have : x.name ≠ f.name := fun e => hn.1 (e ▸ List.mem_map.2 ⟨f, h, rfl⟩)
      simp only [this, decide_false]
      exact ih hn.2 h
theorem IN {pl:List PF}{n:ByteArray}{f:PF}(h:Cs pl n=some f):f∈pl∧f.name=n:=by
 have:=List.find?_some h
 exact⟨List.mem_of_find?_eq_some h,by simpa using this⟩
theorem IP {pl:List PF}{n:ByteArray}(h:∀f∈pl,f.name≠n):Cs pl n=none:=by
 rw[Cs,List.find?_eq_none];intro f hf;simpa using h f hf
theorem Gy {pl pl' : List PF} (hn : (pl.map (·.name)).Nodup) (p : pl.Perm pl') (n : ByteArray) : Cs pl n = Cs pl' n := by
  cases h : Cs pl n with
  | none =>
    rw [IP]
    intro f hf
    have := List.find?_eq_none.1 h f (p.mem_iff.2 hf)
    simpa using this
  | some f =>
    obtain ⟨h1, rfl⟩ := IN h
    rw [Hp ((p.map _).nodup_iff.1 hn) (p.mem_iff.1 h1)]
theorem JV {room:Int}{pl pl':List PF}(p:pl.Perm pl')(n:ByteArray)(b:List UInt8):CN room pl n b=CN room pl' n b:=by
 rw[CN,CN,EV p,Nf p,p.length_eq]
theorem JW {pl pl':List PF}(p:pl.Perm pl')(n:ByteArray)(u:PF→PF):(DS pl n u).Perm (DS pl' n u):=p.map _
theorem Pf {room:Int}{pl pl':List PF}(p:pl.Perm pl')(n:ByteArray)(b:List UInt8):(CH room pl n b).Perm (CH room pl' n b):=by
 rw[CH,CH,JV p,EV p]
 split
 ·split
  ·exact JW p n _
  ·exact p.append_right _
 ·exact p
theorem Hq {pl pl':List PF}(p:pl.Perm pl')(n:ByteArray):(A3 pl n).Perm (A3 pl' n):=p.filter _
theorem Pg {pl pl':List PF}(hn:(pl.map (·.name)).Nodup)(p:pl.Perm pl')(n to:ByteArray):(Gi pl n to).Perm (Gi pl' n to):=by
 have e:Ez pl n to=Ez pl' n to:=by rw[Ez,Ez,EV p]
 rw[Gi,Gi,e,Gy hn p]
 split
 ·split
  ·exact(Hq (Hq p n) to).append_right _
  ·exact p
 ·exact p
theorem IQ {l1 l2:List PF}{f:PF}{u:PF→PF}(hn:((l1++f::l2).map (·.name)).Nodup):DS (l1++f::l2) f.name u=l1++u f::l2:=by
 simp only[List.map_append,List.map_cons]at hn
 have hd:=List.nodup_append.1 hn
 have h1:∀x∈l1,x.name≠f.name:=fun x hx=>hd.2.2 _ (List.mem_map.2 ⟨x,hx,rfl⟩) _ Zs
 have h2:∀x∈l2,x.name≠f.name:=fun x hx e=>(List.nodup_cons.1 hd.2.1).1 (e▸List.mem_map.2 ⟨x,hx,rfl⟩)
 rw[DS,List.map_append,List.map_cons,if_pos rfl]
 congr 1
 ·exact(List.map_congr_left fun x hx=>if_neg (h1 x hx)).trans (List.map_id'' (fun _=>rfl) _)
 ·congr 1
  exact(List.map_congr_left fun x hx=>if_neg (h2 x hx)).trans (List.map_id'' (fun _=>rfl) _)
theorem Ng {l1 l2:List PF}{f:PF}(hn:((l1++f::l2).map (·.name)).Nodup):A3 (l1++f::l2) f.name=l1++l2:=by
 simp only[List.map_append,List.map_cons]at hn
 have hd:=List.nodup_append.1 hn
 have h1:∀x∈l1,x.name≠f.name:=fun x hx=>hd.2.2 _ (List.mem_map.2 ⟨x,hx,rfl⟩) _ Zs
 have h2:∀x∈l2,x.name≠f.name:=fun x hx e=>(List.nodup_cons.1 hd.2.1).1 (e▸List.mem_map.2 ⟨x,hx,rfl⟩)
 rw[A3,List.filter_append,List.filter_cons,if_neg Zs,List.filter_eq_self.2 (fun x hx=>by simpa using h1 x hx),List.filter_eq_self.2 (fun x hx=>by simpa using h2 x hx)]
theorem Hr {pl:List PF}{n:ByteArray}(h:∀f∈pl,f.name≠n):A3 pl n=pl:=List.filter_eq_self.2 fun x hx=>by simpa using h x hx
structure Am where
 name:ByteArray
 blk:Nat
 a:Option Addr
 cap:Nat
 bytes:List UInt8
 synced:Nat
def Am.p (f:Am):PF:=⟨f.name,f.bytes,f.synced⟩
def ent (f:Am):ByteArray×Value:=(f.name,jp f.blk)
def Bp (fs:List Am):List (ByteArray×Value):=fs.map ent
structure Eh (w:World)(f:Am):Prop where
 blk:AA w f.blk [.slice f.a f.bytes.length f.cap,.int .i64 ((f.synced:Nat):Int)] 125
 own:Af w 5 f.a f.cap f.bytes
 apart:¬Go.Proofs.YtjkaicjmfgekjaaGreatDoor.own f.a f.blk
def C3 (f:Am):Nat→Prop:=fun q=>q=f.blk∨own f.a q
def AO (fs:List Am):Nat→Prop:=fun q=>∃f∈fs,C3 f q
structure AN (w:World)(fs:List Am):Prop where
 all:∀f∈fs,Eh w f
 apart:fs.Pairwise (fun f g=>∀q,C3 f q→¬C3 g q)
def Be (d m:Nat)(fs:List Am):Nat→Prop:=fun q=>q=d∨(q=m∨AO fs q)
structure Bd (w:World)(d m:Nat)(room:Int)(fs:List Am):Prop where
 blk:AA w d [.map (some m),.int .i64 room] 120
 map:AQ w m (Bp fs)
 files:AN w fs
 md:¬one m d
 fd:¬AO fs d
 fm:∀q,AO fs q→¬one m q
 ok:BK room (fs.map Am.p)
def AF (w:World)(d:Nat)(S:Nat→Prop)(room:Int)(pl:List PF):Prop:=∃m fs,S=Be d m fs∧(fs.map Am.p).Perm pl∧Bd w d m room fs
section
variable {w w':World}{S:Nat→Prop}{f:Am}{fs l1 l2:List Am}{d m:Nat}{room:Int}
theorem Eh.lt (h:Eh w f):∀q,C3 f q→q<w.heap.size:=by
 rintro q (rfl|hq)
 ·exact h.blk.lt
 ·exact h.own.own_lt q hq
theorem Eh.keepO (h:Eh w f)(k:Ah S w w')(hn:∀q,C3 f q→¬S q):Eh w' f:=
 ⟨h.blk.keep k (hn _ (.inl rfl)),h.own.keepO k (fun q hq=>hn q (.inr hq)),h.apart⟩
theorem AN.own_lt (h:AN w fs):∀q,AO fs q→q<w.heap.size:=fun q ⟨f,hf,hq⟩=>(h.all f hf).lt q hq
theorem AN.keepO (h:AN w fs)(k:Ah S w w')(hn:∀q,AO fs q→¬S q):AN w' fs:=
 ⟨fun f hf=>(h.all f hf).keepO k (fun q hq=>hn q ⟨f,hf,hq⟩),h.apart⟩
theorem AN.ext (h:AN w fs)(k:Aq w w'):AN w' fs:=h.keepO k fun _ _=>id
theorem AN.nil (w:World):AN w []:=⟨fun _ h=>absurd h Zs,List.Pairwise.nil⟩
theorem Nh (f g:Am):(∀q,C3 f q→¬C3 g q)↔(∀q,C3 g q→¬C3 f q):=⟨fun h q a b=>h q b a,fun h q a b=>h q b a⟩
theorem AN.perm (h:AN w fs){gs:List Am}(p:fs.Perm gs):AN w gs:=
 ⟨fun f hf=>h.all f (p.mem_iff.2 hf),(p.pairwise_iff (fun{a b} hab=>(Nh a b).1 hab)).1 h.apart⟩
theorem AN.open (h:AN w (l1++f::l2)):Eh w f∧AN w (l1++l2)∧∀q,AO (l1++l2) q→¬C3 f q:=by
 have h':=h.perm List.perm_middle
 obtain⟨h1,h2⟩:=List.pairwise_cons.1 h'.apart
 exact⟨h'.all f Zs,⟨fun g hg=>h'.all g (List.mem_cons_of_mem _ hg),h2⟩,fun q ⟨g,hg,hq⟩ hf=>h1 g hg q hf hq⟩
theorem AN.close (h:Eh w f)(h1:AN w (l1++l2))(h2:∀q,AO (l1++l2) q→¬C3 f q):AN w (l1++f::l2):=by
 refine AN.perm (fs:=f::(l1++l2)) ⟨?_,List.pairwise_cons.2 ⟨fun g hg q hf hq=>h2 q ⟨g,hg,hq⟩ hf,h1.apart⟩⟩ List.perm_middle.symm
 intro g hg
 rcases List.mem_cons.1 hg with rfl|hg
 ·exact h
 ·exact h1.all g hg
theorem DI {q:Nat}:AO (l1++f::l2) q↔C3 f q∨AO (l1++l2) q:=by
 simp only[AO,List.mem_append,List.mem_cons]
 constructor
 ·rintro⟨g,h|rfl|h,hq⟩
  ·exact .inr ⟨g,.inl h,hq⟩
  ·exact .inl hq
  ·exact .inr ⟨g,.inr h,hq⟩
 ·rintro(hq|⟨g,h|h,hq⟩)
  ·exact⟨f,.inr (.inl rfl),hq⟩
  ·exact⟨g,.inl h,hq⟩
  ·exact⟨g,.inr (.inr h),hq⟩
theorem files_case :∀q,AO (l1++f::l2) q→q=f.blk∨(own f.a q∨AO (l1++l2) q):=fun q h=>by
 rcases DI.1 h with(h|h)|h
 ·exact .inl h
 ·exact .inr (.inl h)
 ·exact .inr (.inr h)
theorem Bd.own_lt (h:Bd w d m room fs):∀q,Be d m fs q→q<w.heap.size:=by
 rintro q (rfl|rfl|hq)
 ·exact h.blk.lt
 ·exact h.map.lt
 ·exact h.files.own_lt q hq
theorem Bd.keepO (h:Bd w d m room fs)(k:Ah S w w')(hn:∀q,Be d m fs q→¬S q):Bd w' d m room fs:=
 ⟨h.blk.keep k (hn _ (.inl rfl)),h.map.keep k (hn _ (.inr (.inl rfl))),h.files.keepO k (fun q hq=>hn q (.inr (.inr hq))),h.md,h.fd,h.fm,h.ok⟩
theorem Bd.ext (h:Bd w d m room fs)(k:Aq w w'):Bd w' d m room fs:=h.keepO k fun _ _=>id
variable {F :Nat→Prop}{pl:List PF}
theorem AF.own_lt (h:AF w d F room pl):∀q,F q→q<w.heap.size:=by obtain⟨m,fs,rfl,_,h⟩:=h;exact h.own_lt
theorem AF.keepO (h:AF w d F room pl)(k:Ah S w w')(hn:∀q,F q→¬S q):AF w' d F room pl:=by obtain⟨m,fs,rfl,hp,h⟩:=h;exact⟨m,fs,rfl,hp,h.keepO k hn⟩
theorem AF.ext (h:AF w d F room pl)(k:Aq w w'):AF w' d F room pl:=h.keepO k fun _ _=>id
theorem AF.ok (h:AF w d F room pl):BK room pl:=by obtain⟨m,fs,rfl,hp,h⟩:=h;exact h.ok.perm hp
theorem AF.perm (h:AF w d F room pl){pl':List PF}(p:pl.Perm pl'):AF w d F room pl':=by obtain⟨m,fs,e,hp,h⟩:=h;exact⟨m,fs,e,hp.trans p,h⟩
theorem Ph {ps:List (ByteArray×Value)}{n:ByteArray}(h:∀p∈ps,p.1≠n):Dc ps n=none:=by
 rw[Dc,List.find?_eq_none.2 (fun p hp=>by simpa using fun e=>h p hp e.symm)];rfl
theorem Pi {n:ByteArray}(h:∀f∈fs,f.name≠n):Dc (Bp fs) n=none:=Ph fun p hp=>by
 obtain⟨f,hf,rfl⟩:=List.mem_map.1 hp;exact h f hf
theorem QJ {ps qs:List (ByteArray×Value)}{n:ByteArray}{v:Value}(h:((ps++(n,v)::qs).map (·.1)).Nodup):Dc (ps++(n,v)::qs) n=some v:=by
 have h1:∀p∈ps,p.1≠n:=fun p hp=>by
  simp only[List.map_append,List.map_cons]at h
  exact(List.nodup_append.1 h).2.2 _ (List.mem_map.2 ⟨p,hp,rfl⟩) _ Zs
 rw[Dc,List.find?_append,List.find?_eq_none.2 (fun p hp=>by simpa using fun e=>h1 p hp e.symm)]
 simp
theorem Hs {n : ByteArray} {v : Value} {qs : List (ByteArray × Value)} : ∀ {ps : List (ByteArray × Value)} {i : Nat}, (∀ p ∈ ps, p.1 ≠ n) → CB n (ps ++ (n, v) :: qs) i = some (i + ps.length, v)
  | [], i, _ => by simp [CB]
  | p :: ps, i, h => by
    rw [List.cons_append, CB, if_neg (fun e => h p Zs e.symm), Hs (fun q hq => h q (by simp [hq]))]
    simp; omega
theorem LP {n:ByteArray}:∀{ps:List (ByteArray×Value)} {i:Nat},(∀p∈ps,p.1≠n)→CB n ps i=none
 |[],_,_=>rfl
 |p::ps,i,h=>by rw[CB,if_neg (fun e=>h p Zs e.symm)];exact LP fun q hq=>h q (by simp[hq])
theorem JX (fs:List Am):(Bp fs).map (·.1)=fs.map (·.name):=by simp[Bp,ent]
theorem GO (fs:List Am):(fs.map Am.p).map (·.name)=fs.map (·.name):=by simp[Am.p]
theorem QK (h:((l1++f::l2).map (·.name)).Nodup):∀g∈l1++l2,g.name≠f.name:=by
 have:=(List.perm_middle (a:=f) (l₁:=l1) (l₂:=l2)).map (·.name)
 have h2:=this.nodup_iff.1 h
 intro g hg e
 rw[List.map_cons,List.nodup_cons]at h2
 exact h2.1 (e▸List.mem_map.2 ⟨g,hg,rfl⟩)
theorem QL (h:((l1++f::l2).map (·.name)).Nodup):Dc (Bp (l1++f::l2)) f.name=some (jp f.blk):=by
 have e:Bp (l1++f::l2)=Bp l1++(f.name,jp f.blk)::Bp l2:=by simp[Bp,ent]
 rw[e]
 exact QJ (by rw[←e,JX];exact h)
theorem JY {n:ByteArray}(hn:(fs.map (·.name)).Nodup)(e:fs=l1++f::l2)(hf:f.name=n):(Dc (Bp fs) n).getD (.pointer none)=jp f.blk:=by
 subst e;subst hf;rw[QL hn];rfl
theorem Ni {n:ByteArray}(h:∀f∈fs,f.name≠n):(Dc (Bp fs) n).getD (.pointer none)= .pointer none:=by rw[Pi h];rfl
theorem AN.openE (h:AN w fs)(e:fs=l1++f::l2):Eh w f∧AN w (l1++l2)∧∀q,AO (l1++l2) q→¬C3 f q:=by subst e;exact h.open
theorem DJ (e:fs=l1++f::l2):AO fs f.blk:=by subst e;exact DI.2 (.inl (.inl rfl))
theorem Dd (e:fs=l1++f::l2):∀q,own f.a q→AO fs q:=by subst e;exact fun q h=>DI.2 (.inl (.inr h))
theorem Cw (e:fs=l1++f::l2):∀q,AO (l1++l2) q→AO fs q:=by subst e;exact fun q h=>DI.2 (.inr h)
theorem Dx (e:fs=l1++f::l2):f∈fs:=by subst e;simp
theorem Bd.names (h:BK room (fs.map Am.p)):(fs.map (·.name)).Nodup:=by have:=h.nodup;rwa[GO]at this
theorem BK.lens (h:BK room (fs.map Am.p)):∀f∈fs,f.synced≤f.bytes.length∧f.bytes.length≤16777216:=fun f hf=>by
 have h1:=h.sync f.p (List.mem_map.2 ⟨f,hf,rfl⟩)
 have h2:=JU (f:=f.p) (List.mem_map.2 ⟨f,hf,rfl⟩)
 have h3:=h.used
 have h4:=h.room
 have h5:f.p.bytes=f.bytes:=rfl
 rw[h5]at h2
 exact⟨h1,by omega⟩
theorem QM {rs:List Am}{j:Nat}{a:ByteArray}{v:Value}(h:(Bp rs)[j]? =some (a,v)):∃f,rs[j]? =some f∧a=f.name∧v=jp f.blk:=by
 rw[Bp,List.getElem?_map,Option.map_eq_some_iff]at h
 obtain⟨f,hf,e⟩:=h
 simp only[ent,Prod.mk.injEq]at e
 exact⟨f,hf,e.1.symm,e.2.symm⟩
theorem Nj (rs:List Am)(j:Nat):(Bp rs).eraseIdx j=Bp (rs.eraseIdx j):=(CM _ _ _).symm
theorem GP {n:ByteArray}(h:∀f∈fs,f.name≠n)(b:Nat)(a:Option Addr)(c:Nat)(bs:List UInt8)(s:Nat):FH (Bp fs) n (jp b)=Bp (fs++[⟨n,b,a,c,bs,s⟩]):=by
 rw[FH,LP (fun p hp=>by obtain⟨f,hf,rfl⟩:=List.mem_map.1 hp;exact h f hf)]
 simp[Bp,ent]
theorem QN (h:((l1++f::l2).map (·.name)).Nodup):M6 (Bp (l1++f::l2)) f.name=Bp (l1++l2):=by
 have e:Bp (l1++f::l2)=Bp l1++(f.name,jp f.blk)::Bp l2:=by simp[Bp,ent]
 have hne:∀p∈Bp l1,p.1≠f.name:=fun p hp=>by obtain⟨g,hg,rfl⟩:=List.mem_map.1 hp;exact QK h g (by simp[hg])
 rw[e,M6,Hs hne]
 simp only[Nat.zero_add]
 rw[List.eraseIdx_append_of_length_le (Nat.le_refl _)]
 simp[Bp]
theorem KV (h:((l1++f::l2).map (·.name)).Nodup)(b:Nat)(f':Am)(hf:f'.name=f.name)(hb:f'.blk=b):FH (Bp (l1++f::l2)) f.name (jp b)=Bp (l1++f'::l2):=by
 have e:Bp (l1++f::l2)=Bp l1++(f.name,jp f.blk)::Bp l2:=by simp[Bp,ent]
 have hne:∀p∈Bp l1,p.1≠f.name:=fun p hp=>by obtain⟨g,hg,rfl⟩:=List.mem_map.1 hp;exact QK h g (by simp[hg])
 rw[e,FH,Hs hne]
 simp only[Nat.zero_add]
 rw[List.set_append_right _ _ (Nat.le_refl _)]
 simp[Bp,ent,hf,hb]
end
end Go.Proofs.YtjkaicjmfgekjaaGreatDoor
namespace Go.Proofs.YtjkaicjmfgekjaaGreatDoor
open Go.Proofs.Tryz
attribute [local irreducible] RD RS Av RL RA RT CJ Aj
theorem Oi {c:UInt8}(h:c.toNat=46∨c.toNat=45∨c.toNat=95∨(48≤c.toNat∧c.toNat≤57)∨(97≤c.toNat∧c.toNat≤122)∨(65≤c.toNat∧c.toNat≤90)):SI c=true:=decide_eq_true h
theorem SR {s:ByteArray}{i:Nat}{c:UInt8}(h:s.data.toList[i]? =some c)(hc:SI c=false):Cr s=false:=by
 rw[Cr,List.all_eq_false.2 ⟨c,List.mem_of_getElem? h,by simp[hc]⟩,Bool.false_and]
theorem QO {s:ByteArray}(h:EF (fun c=> !SI c) s.data.toList s.data.toList.length):Cr s=(!decide (s=⟨#[]⟩)&&decide (((s.size:Nat):Int)≤32)):=by
 rw[Cr,List.all_eq_true.2 (fun c hc=>by
  obtain⟨i,hi,rfl⟩:=List.getElem_of_mem hc
  have:=h i _ hi (List.getElem?_eq_getElem hi)
  simpa using this),Bool.true_and,Uz]
 rw[Bool.eq_iff_iff]
 simp only[Bool.and_eq_true,decide_eq_true_eq,Bool.not_eq_true',decide_eq_false_iff_not]
 omega
theorem Ht (f:Am)(l:List Am):AX ((f::l).map Am.p)=f.bytes.length+AX (l.map Am.p):=by simp[AX,Am.p]
theorem Nk {rs : List Am} {j : Nat} {f : Am} (h : rs[j]? = some f) : AX (rs.map Am.p) = f.bytes.length + AX ((rs.eraseIdx j).map Am.p) := by
  induction rs generalizing j with
  | nil => simp at h
  | cons x l ih =>
    cases j with
    | zero => simp only [List.getElem?_cons_zero, Option.some.injEq] at h; subst h; rw [List.eraseIdx_cons_zero, Ht]
    | succ j => simp only [List.getElem?_cons_succ] at h; rw [List.eraseIdx_cons_succ, Ht, Ht, ih h]; omega
theorem QP {rs:List Am}{j:Nat}{f:Am}(h:rs[j]? =some f):(rs.eraseIdx j).length<rs.length:=by
 have:=(List.getElem?_eq_some_iff.1 h).1
 rw[List.length_eraseIdx,if_pos this];omega
attribute [local irreducible] X
theorem UI (s:ByteArray)(w:World)(hs:s.size≤4294967295):
  Calls prog 173 #[.string s] w (AS (fun v w'=>v= .bool (Cr s)∧Aq w w')):=by
 have hsl:s.data.toList.length=s.size:=ED s;refine Ae (n:=54) func173 rfl rfl rfl ?_;refine jG ?_;refine jR<|Av.bytes underlying9 underlying98 underlying5 rfl ?_;intro a1 a3 a5 a6 a0 a4;have K0:=(a4:Aq w _);refine jG ?_;refine Aj.loop (ι:=Nat) (fun i ρ' w'=>Holds ρ' [(0,.string s),(6,.slice (some ⟨a1,0,none⟩) ((s).data.toList.length) a3),(7,.int .i64 (((s).data.toList.length:Nat):Int)),(8,.int .i64 ((i:Nat):Int))]∧Aq w w'∧(As w' (some ⟨a1,0,none⟩) ((s).data.toList))∧(i≤s.data.toList.length)∧(EF (fun c=> !SI c) s.data.toList i)) (fun i=>s.data.toList.length-i) 0 ?_ ?_
 ·refine⟨⟨rfl,rfl,rfl,rfl,trivial⟩,K0,a0,?_,?_⟩
  ·omega
  ·exact EF.zero _ _
 clear K0;rintro i a7 a8 ⟨a2,K0,a0,hi,hno⟩ ih1;obtain⟨ρ₀,rfl⟩:=a2.ex;clear a2;refine jG ?_;refine jF ?_ ?_
 ·intro hc9
  obtain⟨a9,aa,c,hx,ab,ac⟩:=a0.eo i;refine jG ?_;refine jV (AJ rfl rfl rfl) ?_;refine jG ?_;refine jV (AJ rfl rfl rfl) ?_;refine jG ?_;refine jW ?_ (hx:=by exact fun hg=>(IE hg rfl rfl rfl));refine jV (AJ rfl rfl rfl) ?_;refine jG ?_;refine jW ?_ (hx:=by exact fun hg=>(IE hg rfl rfl rfl));refine jV (AJ rfl rfl rfl) ?_;refine jG ?_;refine jW ?_ (hx:=by exact fun hg=>(IE hg rfl rfl rfl));refine jV (AJ rfl rfl rfl) ?_;refine jG ?_;refine jF ?_ ?_
  ·intro hc45
   have hok1:SI c=false:=by
    first
    |(refine Oi ?_;omega)
    |(cases hq:SI c with
     |false=>rfl
     |true=>exfalso;have hq2:=of_decide_eq_true hq;omega)
   refine jG ?_;refine jJ func173 ?_;exact⟨_,rfl,by rw[SR hx hok1],K0⟩
  ·intro hc45
   have hok1:SI c=true:=by
    first
    |(refine Oi ?_;omega)
    |(cases hq:SI c with
     |false=>rfl
     |true=>exfalso;have hq2:=of_decide_eq_true hq;omega)
   refine jG ?_;refine jV (At (c:=((i+1:Nat):Int)) (An rfl rfl Zo Zo) rfl) ?_;refine jG ?_;refine ih1 (i+1) _ _ ?_ Zo;refine⟨⟨rfl,rfl,rfl,rfl,trivial⟩,K0,a0,?_,?_⟩
   ·omega
   ·exact hno.step hx (by rw[hok1];rfl)
 ·intro hc9
  refine jG ?_;refine jV (Lz rfl rfl) ?_;refine jG ?_;refine jW ?_ (hx:=by exact fun hg=>(Cz underlying9 (Bf hg)));refine jG ?_;refine jV (AJ rfl rfl rfl) ?_;refine jG ?_;refine jJ func173 ?_;have hil:i=s.data.toList.length:=by omega
  subst hil;exact⟨_,rfl,by rw[QO hno],K0⟩
theorem QQ (d m:Nat)(room:Int)(fs:List Am)(w:World)(hD:Bd w d m room fs):
  Calls prog 54 #[jp d] w (AS (fun v w'=>v= .bool true∧w=w')):=by
 obtain⟨hB,hM,hF,hmd,hfd,hfm,hok⟩:=hD;have hnd:=Bd.names hok;have hlens:=BK.lens hok;have hroom:=hok.room;have hused:=hok.used;have hcnt:=hok.len;rw[List.length_map]at hcnt;refine Ae (n:=12) func54 rfl rfl rfl ?_;refine jG ?_;refine jV (Cq (DR underlying23 rfl rfl) rfl) ?_;refine jG ?_;refine jT<|jO (Cq (LK underlying118 rfl rfl) rfl) ?_;refine jV (Bv rfl rfl rfl) ?_;refine jG ?_;refine jJ func54 ?_;exact⟨_,rfl,rfl,rfl⟩
theorem JZ (d m:Nat)(room:Int)(fs:List Am)(name:ByteArray)(w:World)(hD:Bd w d m room fs)(hs:name.size≤4294967295):
  Calls prog 109 #[jp d,.string name] w (AS (fun v w'=>Aq w w'∧((Cr name=false∧v= .tuple #[.pointer none,.int .i64 6])∨(Cr name=true∧(∀f∈fs,f.name≠name)∧v= .tuple #[.pointer none,.int .i64 20])∨(Cr name=true∧∃l1 f l2,fs=l1++f::l2∧f.name=name∧v= .tuple #[jp f.blk,.int .i64 0])))):=by
 obtain⟨hB,hM,hF,hmd,hfd,hfm,hok⟩:=hD;have hnd:=Bd.names hok;have hlens:=BK.lens hok;have hroom:=hok.room;have hused:=hok.used;have hcnt:=hok.len;rw[List.length_map]at hcnt;refine Ae (n:=28) func109 rfl rfl rfl ?_;refine jG ?_;refine jR<|jC (QQ d m room fs _ (⟨hB,hM,hF,hmd,hfd,hfm,hok⟩:Bd _ d m room fs)) ?_;rintro _ _ ⟨rfl,rfl⟩;refine jV (Bo (b:=true) rfl) ?_;refine jG ?_;refine Aj.condF rfl ?_;refine jG ?_;refine jR<|jC (UI name _ Zo) ?_;rintro _ a1 ⟨rfl,a0⟩;have K0:=(a0:Aq w _);refine jG ?_;replace hB:=hB.ext a0;replace hM:=hM.ext a0;replace hF:=hF.ext a0;refine jF ?_ ?_
 ·intro hc10
  refine jG ?_;refine jK func109 ?_;exact⟨_,rfl,K0,.inl ⟨by simpa using hc10,rfl⟩⟩
 ·intro hc10
  refine Ds ?_;by_cases hh:∃f∈fs,f.name=name
  ·obtain⟨f,hf,hfn⟩:=hh
   obtain⟨l1,l2,hfs⟩:=List.append_of_mem hf;refine jG ?_;refine jV (Gx (v':=jp f.blk) (FI underlying118 underlying9 rfl ty121 rfl rfl hM) (JY hnd hfs hfn)) ?_;refine jV (CW (C0 underlying121 rfl rfl) rfl) ?_;refine jG ?_;refine Aj.condF rfl ?_;refine jG ?_;refine jV (Gx (v':=jp f.blk) (FI underlying118 underlying9 rfl ty121 rfl rfl hM) (JY hnd hfs hfn)) ?_;refine jG ?_;refine jK func109 ?_;exact⟨_,rfl,K0,.inr (.inr ⟨by simpa using hc10,l1,f,l2,hfs,hfn,rfl⟩)⟩
  ·have hno:∀f∈fs,f.name≠name:=fun f hf e=>hh ⟨f,hf,e⟩
   refine jG ?_;refine jV (Gx (v':= .pointer none) (FI underlying118 underlying9 rfl ty121 rfl rfl hM) (Ni hno)) ?_;refine jV (Cq (C0 underlying121 rfl rfl) rfl) ?_;refine jG ?_;refine Ed ?_;refine jG ?_;refine jK func109 ?_;exact⟨_,rfl,K0,.inr (.inl ⟨by simpa using hc10,hno,rfl⟩)⟩
theorem Ue (d m:Nat)(room:Int)(fs:List Am)(w:World)(hD:Bd w d m room fs):
  Calls prog 157 #[jp d] w (AS (fun v w'=>v= .int .i64 ((AX (fs.map Am.p):Nat):Int)∧Aq w w')):=by
 obtain⟨hB,hM,hF,hmd,hfd,hfm,hok⟩:=hD;have hnd:=Bd.names hok;have hlens:=BK.lens hok;have hroom:=hok.room;have hused:=hok.used;have hcnt:=hok.len;rw[List.length_map]at hcnt;refine Ae (n:=25) func157 rfl rfl rfl ?_;refine jG ?_;refine jR<|jC (QQ d m room fs _ (⟨hB,hM,hF,hmd,hfd,hfm,hok⟩:Bd _ d m room fs)) ?_;rintro _ _ ⟨rfl,rfl⟩;refine jG ?_;refine Ed ?_;refine jG ?_;refine jR<|Av.rangeMap underlying118 rfl hM ?_;intro a0 ag a1 a6 a2;have ac:=Ap (Eg a1) hB.lt;have ad:=Ao (Eg a1) hM.own_lt;have ae:=Ao (Eg a1) hF.own_lt;have af:=A1 (Nat.le_refl _) (Eg a1);clear a1;have K0:=(a2:Aq w _);refine jG ?_;replace hB:=hB.ext a2;replace hM:=hM.ext a2;replace hF:=hF.ext a2;refine Aj.loop (ι:=Nat) (fun k ρ' w'=>∃rs:List Am,∃la:Option (ByteArray×Value),∃n:Nat,Holds ρ' [(3,.int .i64 ((n:Nat):Int)),(12,jp a0)]∧Aq w w'∧(AA w' d [.map (some m),.int .i64 room] 120)∧(AQ w' m (Bp fs))∧(AN w' fs)∧(BO w' a0 m (Bp rs) la)∧(¬one a0 d)∧(∀q_,one a0 q_→¬one m q_)∧(∀q_,one a0 q_→¬AO fs q_)∧(∀q_,one a0 q_→w.heap.size≤q_)∧(k=rs.length)∧(n+AX (rs.map Am.p)=AX (fs.map Am.p))∧(∀f∈rs,f∈fs)) (fun k=>k) fs.length ?_ ?_
 ·refine⟨fs,none,0,⟨rfl,rfl,trivial⟩,K0,hB,hM,hF,a6,ac,ad,ae,af,?_,?_,?_⟩
  ·rfl
  ·omega
  ·exact fun f h=>h
 clear hB hM hF a6;clear K0;rintro k ah ai ⟨rs,la,n,a7,K0,hB,hM,hF,a3,a8,a9,aa,ab,hk,hn,hsub⟩ ih1;obtain⟨ρ₀,rfl⟩:=a7.ex;clear a7;refine jG ?_;refine jR<|Av.nextMap rfl a3 ?_ ?_
 ·intro h0_18
  replace h0_18:rs=[]:=by simpa[Bp]using h0_18
  refine jG ?_;refine Aj.condF rfl ?_;have h0_:=h0_18;refine jG ?_;refine jJ func157 ?_;have hn':n=AX (fs.map Am.p):=by rw[h0_]at hn;simpa[AX]using hn
  exact⟨_,rfl,by rw[hn'],K0⟩
 ·intro jx aj ak al h0_22 a5 a4
  obtain⟨f,hf,rfl,rfl⟩:=QM h0_22;clear h0_22;rw[Nj]at a5;replace a3:=a5;clear a5;refine jG ?_;refine Ed ?_;refine jG ?_;refine jV (SP rfl a3) ?_;have hfm_:f∈fs:=hsub f (List.mem_of_getElem? hf);have hfl:=hlens f hfm_;replace hF:=hF.keepO a4 (Zf aa);have hb:=(hF.all f hfm_).blk;refine jG ?_;refine jV (At (c:=((n+f.bytes.length:Nat):Int)) (An rfl rfl Zo Zo) rfl) ?_;clear hb;refine jG ?_;refine ih1 ((rs.eraseIdx jx).length) _ _ ?_ (by rw[hk];exact QP hf);replace hB:=hB.keep a4 a8;replace hM:=hM.keepO a4 (Zf a9);replace K0:=K0.new a4 ab;refine⟨_,_,n+f.bytes.length,⟨rfl,rfl,trivial⟩,K0,hB,hM,hF,a3,a8,a9,aa,ab,?_,?_,?_⟩
  ·rfl
  ·have:=Nk hf;omega
  ·exact fun f h=>hsub f (List.mem_of_mem_eraseIdx h)
end Go.Proofs.YtjkaicjmfgekjaaGreatDoor
namespace Go.Proofs.YtjkaicjmfgekjaaGreatDoor
open Go.Proofs.Tryz
attribute [local irreducible] RD RS Av RL RA RT CJ Aj
section
variable {w w':World}{f:Am}{fs fs' l1 l2:List Am}{d m:Nat}{room:Int}{n:ByteArray}{N:Nat}{pl:List PF}
theorem CO {nm:ByteArray}{b:Nat}{a:Option Addr}{c:Nat}{xs:List UInt8}{s:Nat}:∀q,AO (l1++⟨nm,b,a,c,xs,s⟩::l2) q→q=b∨(own a q∨AO (l1++l2) q):=files_case
theorem Hu {nm:ByteArray}{b:Nat}{a:Option Addr}{c:Nat}{xs:List UInt8}{s:Nat}:∀q,AO (fs++[⟨nm,b,a,c,xs,s⟩]) q→q=b∨(own a q∨AO fs q):=fun q h=>by
 have:=CO (l2:=[]) q h;rwa[List.append_nil]at this
theorem AN.snoc (h:Eh w f)(h1:AN w fs)(h2:∀q,AO fs q→¬C3 f q):AN w (fs++[f]):=AN.close (l2:=[]) h (by rwa[List.append_nil]) (by rwa[List.append_nil])
theorem Ei (h:∀q,AO fs' q→q<N→Be d m fs q):∀q,Be d m fs' q→q<N→Be d m fs q:=by
 rintro q (rfl|rfl|h') hl
 ·exact .inl rfl
 ·exact .inr (.inl rfl)
 ·exact h q h' hl
theorem J0 {F F':Nat→Prop}(h:∀q,F' q→q<w.heap.size→F q):A8 w F F':=fun q hq=>by
 by_cases hl:q<w.heap.size
 ·exact .inl (h q hq hl)
 ·exact .inr Zo
theorem UJ (h:∀f∈fs,f.name≠n):∀f∈fs.map Am.p,f.name≠n:=fun x hx=>by obtain⟨f,hf,rfl⟩:=List.mem_map.1 hx;exact h f hf
theorem ST (h:BK room (fs.map Am.p))(hm:Cr n=false):∀f∈fs,f.name≠n:=fun f hf e=>by
 have:=h.may f.p (List.mem_map.2 ⟨f,hf,rfl⟩)
 rw[show f.p.name=n from e,hm]at this;cases this
theorem GQ (h:∀f∈fs,f.name≠n):B7 (fs.map Am.p) n=false:=Nd (UJ h)
theorem Ie (e:fs=l1++f::l2)(hf:f.name=n):B7 (fs.map Am.p) n=true:=Ba.2 ⟨f.p,List.mem_map.2 ⟨f,Dx e,rfl⟩,hf⟩
theorem F3 (hm:Cr n=false):Cb pl n=6:=by rw[Cb,hm];rfl
theorem GR (hm:Cr n=true)(h:∀f∈fs,f.name≠n):Cb (fs.map Am.p) n=20:=by rw[Cb,hm,GQ h];rfl
theorem GS (hm:Cr n=true)(e:fs=l1++f::l2)(hf:f.name=n):Cb (fs.map Am.p) n=0:=by rw[Cb,hm,Ie e hf];rfl
theorem IR (hn:(fs.map (·.name)).Nodup)(e:fs=l1++f::l2)(hf:f.name=n):Cs (fs.map Am.p) n=some f.p:=by
 subst hf;exact Hp (f:=f.p) (by rw[GO];exact hn) (List.mem_map.2 ⟨f,Dx e,rfl⟩)
theorem GT (h:∀f∈fs,f.name≠n):Cs (fs.map Am.p) n=none:=IP (UJ h)
theorem QR {u:PF→PF}(hn:(fs.map (·.name)).Nodup)(e:fs=l1++f::l2)(hf:f.name=n):DS (fs.map Am.p) n u=l1.map Am.p++u f.p::l2.map Am.p:=by
 subst e;subst hf
 rw[List.map_append,List.map_cons]
 exact IQ (f:=f.p) (by rw[←List.map_cons,←List.map_append,GO];exact hn)
theorem Nl {u:PF→PF}(h:∀f∈pl,f.name≠n):DS pl n u=pl:=(List.map_congr_left fun x hx=>if_neg (h x hx)).trans (List.map_id'' (fun _=>rfl) _)
theorem KW (hn:(fs.map (·.name)).Nodup)(e:fs=l1++f::l2)(hf:f.name=n):A3 (fs.map Am.p) n=(l1++l2).map Am.p:=by
 subst e;subst hf
 rw[List.map_append,List.map_cons,List.map_append]
 exact Ng (f:=f.p) (by rw[←List.map_cons,←List.map_append,GO];exact hn)
theorem Oj (hn:(fs.map (·.name)).Nodup)(e:fs=l1++f::l2)(hf:f.name=n):(l1++⟨f.name,f.blk,f.a,f.cap,f.bytes,f.bytes.length⟩::l2).map Am.p=Cj (fs.map Am.p) n:=by
 rw[Cj,QR hn e hf,List.map_append,List.map_cons];rfl
theorem BK.upd {u:PF→PF}(h:BK room pl)(hn:∀f,(u f).name=f.name)(hs:∀f∈pl,(u f).synced≤(u f).bytes.length)(hu:(AX (DS pl n u):Int)≤room):BK room (DS pl n u):=by
 have e:(DS pl n u).map (·.name)=pl.map (·.name):=by
  rw[DS,List.map_map];apply List.map_congr_left;intro f _;simp only[Function.comp];split;exact hn f;rfl
 refine⟨by rw[e];exact h.nodup,?_,?_,hu,by rw[DS,List.length_map];exact h.len,h.room⟩
 ·intro x hx
  have:x.name∈pl.map (·.name):=by rw[←e];exact List.mem_map.2 ⟨x,hx,rfl⟩
  obtain⟨y,hy,e2⟩:=List.mem_map.1 this
  rw[←e2];exact h.may y hy
 ·intro x hx
  obtain⟨y,hy,rfl⟩:=List.mem_map.1 hx
  by_cases c:y.name=n
  ·rw[if_pos c];exact hs y hy
  ·rw[if_neg c];exact h.sync y hy
theorem JB {u:PF→PF}(h:∀f,(u f).bytes.length=f.bytes.length):AX (DS pl n u)=AX pl:=by
 rw[AX,DS,List.map_map,AX];congr 1;apply List.map_congr_left;intro f _;simp only[Function.comp];split;exact h f;rfl
theorem BK.syn (h:BK room pl):BK room (Cj pl n):=h.upd (fun _=>rfl) (fun _ _=>Nat.le_refl _) (by rw[JB (u:=fun f=>{f with synced:=f.bytes.length}) (fun _=>rfl)];exact h.used)
theorem J1 {a b:List PF}(h:a.Sublist b):AX a≤AX b:=by
 induction h with
 |slnil=>exact Nat.le_refl _
 |cons x _ ih=>rw[AX,AX,List.map_cons,List.sum_cons];rw[AX,AX]at ih;omega
 |cons_cons x _ ih=>rw[AX,AX,List.map_cons,List.sum_cons,List.map_cons,List.sum_cons];rw[AX,AX]at ih;omega
theorem BK.sub {a:List PF}(h:BK room pl)(s:a.Sublist pl):BK room a:=
 ⟨h.nodup.sublist (s.map _),fun f hf=>h.may f (s.subset hf),fun f hf=>h.sync f (s.subset hf),by have:=J1 s;have:=h.used;omega,Nat.le_trans s.length_le h.len,h.room⟩
theorem BK.rem (h:BK room pl):BK room (A3 pl n):=h.sub List.filter_sublist
theorem HU (a b:List PF):AX (a++b)=AX a+AX b:=by simp[AX]
theorem KX {b:List UInt8}(hn:(pl.map (·.name)).Nodup):AX (DS pl n (fun f=>{f with bytes:=f.bytes++b}))≤AX pl+b.length:=by
 by_cases hh:∃f∈pl,f.name=n
 ·obtain⟨f,hf,rfl⟩:=hh
  obtain⟨l1,l2,rfl⟩:=List.append_of_mem hf
  rw[IQ hn]
  simp[AX];omega
 ·rw[Nl (fun f hf e=>hh ⟨f,hf,e⟩)];omega
theorem BK.app {b:List UInt8}(h:BK room pl):BK room (CH room pl n b):=by
 unfold CH
 split
 ·rename_i he
  unfold CN at he
  split at he
  ·rename_i hm
   split at he
   ·cases he
   ·rename_i hc
    have hu:=h.used
    split
    ·refine h.upd (fun _=>rfl) (fun f hf=>by have:=h.sync f hf;simp;omega) ?_
     have:=KX (n:=n) (b:=b) h.nodup
     omega
    ·rename_i hh
     have hno:∀f∈pl,f.name≠n:=fun f hf e=>hh (Ba.2 ⟨f,hf,e⟩)
     have hh':B7 pl n=false:=by simpa using hh
     refine⟨?_,?_,?_,?_,?_,h.room⟩
     ·rw[List.map_append,List.nodup_append]
      refine⟨h.nodup,by simp,?_⟩
      intro x hx y hy
      obtain⟨f,hf,rfl⟩:=List.mem_map.1 hx
      simp only[List.map_cons,List.map_nil,List.mem_singleton]at hy
      subst hy;exact hno f hf
     ·intro f hf
      rcases List.mem_append.1 hf with hf|hf
      ·exact h.may f hf
      ·simp only[List.mem_singleton]at hf;subst hf;exact hm
     ·intro f hf
      rcases List.mem_append.1 hf with hf|hf
      ·exact h.sync f hf
      ·simp only[List.mem_singleton]at hf;subst hf;exact Nat.zero_le _
     ·rw[HU];simp only[AX,List.map_cons,List.map_nil,List.sum_cons,List.sum_nil]at*;omega
     ·rw[List.length_append];simp only[List.length_singleton];simp only[hh',true_and]at hc;omega
  ·cases he
 ·exact h
theorem LQ {b:List UInt8}(hm:Cr n=false):CN room pl n b=6:=by rw[CN,if_neg (by simp[hm])]
theorem J2 {b:List UInt8}(hm:Cr n=true)(h:(B7 pl n=false∧64≤pl.length)∨room-(AX pl:Int)<(b.length:Int)):CN room pl n b=7:=by rw[CN,if_pos hm,if_pos h]
theorem Ok {b:List UInt8}(hm:Cr n=true)(h:¬((B7 pl n=false∧64≤pl.length)∨room-(AX pl:Int)<(b.length:Int))):CN room pl n b=0:=by rw[CN,if_pos hm,if_neg h]
theorem KY {b:List UInt8}(h:CN room pl n b≠0):CH room pl n b=pl:=by rw[CH,if_neg h]
theorem QS {b:List UInt8}(he:CN room (fs.map Am.p) n b=0)(hn:(fs.map (·.name)).Nodup)(e:fs=l1++f::l2)(hf:f.name=n)(a:Option Addr)(c:Nat):
  (l1++⟨f.name,f.blk,a,c,f.bytes++b,f.synced⟩::l2).map Am.p=CH room (fs.map Am.p) n b:=by
 rw[CH,if_pos he,if_pos (Ie e hf),QR hn e hf,List.map_append,List.map_cons];rfl
theorem Ol {b:List UInt8}(he:CN room (fs.map Am.p) n b=0)(h:∀f∈fs,f.name≠n)(x:Nat)(a:Option Addr)(c:Nat):
  (fs++[(⟨n,x,a,c,b,0⟩:Am)]).map Am.p=CH room (fs.map Am.p) n b:=by
 rw[CH,if_pos he,GQ h,List.map_append];rfl
theorem Pj (nm:ByteArray)(x:Nat)(a a':Option Addr)(c c':Nat)(b b':List UInt8)(s s':Nat):Bp (fs++[(⟨nm,x,a,c,b,s⟩:Am)])=Bp (fs++[(⟨nm,x,a',c',b',s'⟩:Am)]):=by simp[Bp,ent]
theorem KZ (e:fs=l1++f::l2)(a:Option Addr)(c:Nat)(b:List UInt8)(s:Nat):Bp fs=Bp (l1++⟨f.name,f.blk,a,c,b,s⟩::l2):=by subst e;simp[Bp,ent]
theorem BK.nil (h:BK room pl):BK room []:=h.sub (List.nil_sublist _)
theorem BK.empty (h:0≤room∧room≤16777216):BK room (([]:List Am).map Am.p):=⟨by simp,fun _ h=>absurd h Zs,fun _ h=>absurd h Zs,by simp[AX];exact h.1,by simp,h⟩
theorem J3 (hn:(fs.map (·.name)).Nodup)(e:fs=l1++f::l2)(hf:f.name=n):M6 (Bp fs) n=Bp (l1++l2):=by subst e;subst hf;exact QN hn
theorem J4 (hn:(fs.map (·.name)).Nodup)(e:fs=l1++f::l2):((l1++l2).map (·.name)).Nodup:=by
 subst e
 exact hn.sublist (((List.sublist_cons_self f l2).append_left l1).map _)
theorem LR {to:ByteArray}(hm:Cr n=false):Ez pl n to=6:=by rw[Ez,if_neg (by simp[hm])]
theorem F4 {to:ByteArray}(hm:Cr n=true)(h2:Cr to=false):Ez pl n to=6:=by rw[Ez,if_pos hm,if_neg (by simp[h2])]
theorem Om {to:ByteArray}(hm:Cr n=true)(h2:Cr to=true)(h:∀f∈fs,f.name≠n):Ez (fs.map Am.p) n to=20:=by rw[Ez,if_pos hm,if_pos h2,GQ h];rfl
theorem On {to:ByteArray}(hm:Cr n=true)(h2:Cr to=true)(e:fs=l1++f::l2)(hf:f.name=n):Ez (fs.map Am.p) n to=0:=by rw[Ez,if_pos hm,if_pos h2,Ie e hf];rfl
theorem If {to:ByteArray}(h:Ez pl n to≠0):Gi pl n to=pl:=by rw[Gi,if_neg h]
def renFs :List Am→Am→List Am
 |[],g=>[g]
 |x::l,g=>if x.name=g.name then g::l else x::renFs l g
theorem Hv {l : List Am} {g x : Am} (h : x ∈ renFs l g) : x = g ∨ x ∈ l := by
  induction l with
  | nil => simp [renFs] at h; exact .inl h
  | cons y l ih =>
    rw [renFs] at h
    split at h
    · rcases List.mem_cons.1 h with h | h
      · exact .inl h
      · exact .inr (List.mem_cons_of_mem _ h)
    · rcases List.mem_cons.1 h with h | h
      · exact .inr (by rw [h]; simp)
      · rcases ih h with h | h
        · exact .inl h
        · exact .inr (List.mem_cons_of_mem _ h)
theorem QT {nm : ByteArray} (h : Eh w f ∧ AN w (l1 ++ l2) ∧ ∀ q, AO (l1 ++ l2) q → ¬ C3 f q) : AN w (renFs (l1 ++ l2) ⟨nm, f.blk, f.a, f.cap, f.bytes, f.synced⟩) := by
  obtain ⟨h1, h2, h3⟩ := h
  generalize l1 ++ l2 = l at *
  refine ⟨fun x hx => (Hv hx).elim (fun e => by rw [e]; exact ⟨h1.blk, h1.own, h1.apart⟩) (fun h => h2.all x h), ?_⟩
  have key : ∀ (l : List Am), l.Pairwise (fun f g => ∀ q, C3 f q → ¬ C3 g q) → (∀ x ∈ l, ∀ q, C3 x q → ¬ C3 f q) → (renFs l ⟨nm, f.blk, f.a, f.cap, f.bytes, f.synced⟩).Pairwise (fun f g => ∀ q, C3 f q → ¬ C3 g q) := by
    intro l
    induction l with
    | nil => intro _ _; simp [renFs]
    | cons y l ih =>
      intro hp hx
      obtain ⟨hp1, hp2⟩ := List.pairwise_cons.1 hp
      rw [renFs]
      split
      · exact List.pairwise_cons.2 ⟨fun z hz q hq hz2 => hx z (List.mem_cons_of_mem _ hz) q hz2 hq, hp2⟩
      · refine List.pairwise_cons.2 ⟨fun z hz q hq hz2 => ?_, ih hp2 (fun x h => hx x (List.mem_cons_of_mem _ h))⟩
        rcases Hv hz with rfl | hz
        · exact hx y Zs q hq hz2
        · exact hp1 z hz q hq hz2
  exact key l h2.apart (fun x hx q hq => h3 q ⟨x, hx, hq⟩)
theorem Hw {nm:ByteArray}(e:fs=l1++f::l2):∀q,AO (renFs (l1++l2) ⟨nm,f.blk,f.a,f.cap,f.bytes,f.synced⟩) q→AO fs q:=fun q ⟨x,hx,hq⟩=>by
 subst e
 rcases Hv hx with rfl|hx
 ·exact DI.2 (.inl hq)
 ·exact DI.2 (.inr ⟨x,hx,hq⟩)
theorem FK {g : Am} : ∀ {l : List Am}, (l.map (·.name)).Nodup → (∀ x ∈ l, x.name ≠ g.name) ∧ renFs l g = l ++ [g] ∨ ∃ a x b, l = a ++ x :: b ∧ x.name = g.name ∧ renFs l g = a ++ g :: b
  | [], _ => .inl ⟨fun _ h => by simp at h, rfl⟩
  | y :: l, hn => by
    simp only [List.map_cons, List.nodup_cons] at hn
    rw [renFs]
    by_cases c : y.name = g.name
    · rw [if_pos c]; exact .inr ⟨[], y, l, rfl, c, rfl⟩
    · rw [if_neg c]
      rcases FK (g := g) hn.2 with ⟨h1, h2⟩ | ⟨a, x, b, h1, h2, h3⟩
      · refine .inl ⟨fun x hx => ?_, by rw [h2]; rfl⟩
        rcases List.mem_cons.1 hx with rfl | hx
        · exact c
        · exact h1 x hx
      · exact .inr ⟨y :: a, x, b, by rw [h1]; rfl, h2, by rw [h3]; rfl⟩
theorem Pk {g:Am}{l:List Am}(hn:(l.map (·.name)).Nodup):FH (Bp l) g.name (jp g.blk)=Bp (renFs l g):=by
 rcases FK (g:=g) hn with⟨h1,h2⟩|⟨a,x,b,h1,h2,h3⟩
 ·rw[h2];exact GP h1 g.blk g.a g.cap g.bytes g.synced
 ·rw[h3];subst h1;rw[←h2];exact KV hn g.blk g h2.symm rfl
theorem UK {to:ByteArray}(hok:BK room (fs.map Am.p))(hn:(fs.map (·.name)).Nodup)(e:fs=l1++f::l2)(hf:f.name=n)(hm:Cr n=true)(h2:Cr to=true):
  ((renFs (l1++l2) ⟨to,f.blk,f.a,f.cap,f.bytes,f.synced⟩).map Am.p).Perm (Gi (fs.map Am.p) n to)∧BK room ((renFs (l1++l2) ⟨to,f.blk,f.a,f.cap,f.bytes,f.synced⟩).map Am.p):=by
 have hp:((renFs (l1++l2) ⟨to,f.blk,f.a,f.cap,f.bytes,f.synced⟩).map Am.p).Perm (A3 ((l1++l2).map Am.p) to++[⟨to,f.bytes,f.synced⟩]):=by
  have hs:=J4 hn e
  generalize l1++l2=l at*
  rcases FK (g:=⟨to,f.blk,f.a,f.cap,f.bytes,f.synced⟩) hs with⟨h1,h2⟩|⟨a,x,b,h1,h2,h3⟩
  ·rw[h2,Hr (UJ h1),List.map_append];exact List.Perm.refl _
  ·subst h1
   rw[h3,KW hs rfl h2,List.map_append,List.map_cons,List.map_append]
   exact(List.perm_middle).trans (List.perm_append_singleton _ _).symm
 have he:Gi (fs.map Am.p) n to=A3 ((l1++l2).map Am.p) to++[⟨to,f.bytes,f.synced⟩]:=by
  rw[Gi,if_pos (On hm h2 e hf),IR hn e hf,KW hn e hf];rfl
 refine⟨by rw[he];exact hp,BK.perm ?_ hp.symm⟩
 have hr:BK room (A3 ((l1++l2).map Am.p) to):=BK.rem (hok.sub (by subst e;exact(((List.sublist_cons_self f l2).append_left l1).map _)))
 have hu:AX (A3 ((l1++l2).map Am.p) to)+f.bytes.length≤AX (fs.map Am.p)∧(A3 ((l1++l2).map Am.p) to).length+1≤fs.length:=by
  subst e
  have h1:AX (A3 ((l1++l2).map Am.p) to)≤AX ((l1++l2).map Am.p):=J1 List.filter_sublist
  have h2:AX ((l1++f::l2).map Am.p)=f.bytes.length+AX ((l1++l2).map Am.p):=by simp[AX,Am.p];omega
  have h3:(A3 ((l1++l2).map Am.p) to).length≤((l1++l2).map Am.p).length:=List.length_filter_le _ _
  simp only[List.length_map,List.length_append,List.length_cons]at h3⊢
  omega
 have hus:=hok.used
 have hle:=hok.len
 rw[List.length_map]at hle
 have hfl:=BK.lens hok f (Dx e)
 refine⟨?_,?_,?_,?_,?_,hok.room⟩
 ·rw[List.map_append,List.nodup_append]
  refine⟨hr.nodup,by simp,?_⟩
  intro x hx y hy
  obtain⟨z,hz,rfl⟩:=List.mem_map.1 hx
  simp only[List.map_cons,List.map_nil,List.mem_singleton]at hy
  subst hy
  have:=(List.mem_filter.1 hz).2
  simpa using this
 ·intro x hx
  rcases List.mem_append.1 hx with hx|hx
  ·exact hr.may x hx
  ·simp only[List.mem_singleton]at hx;subst hx;exact h2
 ·intro x hx
  rcases List.mem_append.1 hx with hx|hx
  ·exact hr.sync x hx
  ·simp only[List.mem_singleton]at hx;subst hx;exact hfl.1
 ·rw[HU];simp only[AX,List.map_cons,List.map_nil,List.sum_cons,List.sum_nil]at*;omega
 ·rw[List.length_append];simp only[List.length_singleton];omega
end
attribute [local irreducible] X
theorem Nm (a:Option Addr)(xs:List UInt8)(c:Nat)(w:World)(hs:As w a xs)(hl:xs.length≤4294967295):
  Calls prog 56 #[.slice a xs.length c] w (AS (fun v w'=>∃a' c',v= .slice a' xs.length c'∧Af w' 5 a' c' xs∧(∀b,own a' b→w.heap.size≤b)∧Aq w w')):=by
 refine Ae (n:=8) func56 rfl rfl rfl ?_;refine jG ?_;refine jV (Ic underlying98 rfl rfl) ?_;refine jG ?_;refine Aj.cond rfl (fun hc4=> ?_) (fun hc4=> ?_)
 ·skip
  refine jG ?_;refine jJ func56 ?_;have hx:=hs.nil_of hc4;subst hx;exact⟨_,rfl,none,0,rfl,Af.nil _ _,fun b h=>absurd h (Ac b),(Ah.refl _ w)⟩
 ·skip
  refine jG ?_;refine jR<|Av.buildSlice ([]:List UInt8) underlying98 ty5 rfl rfl Ze ?_;intro ab ac a0 a4 a5;have a1:=A1 (Nat.le_refl _) (A9 a0);clear a0;have K0:=(a5:Aq w _);refine jG ?_;refine jR<|Av.append (xs:=([]:List UInt8)) (ys:=xs) underlying98 ty5 rfl rfl rfl a4 (hs.ext K0) Zr Zd ?_;intro a2 a6 ad a7 a8 a3 a9;have aa:∀q_,own a2 q_→w.heap.size≤q_:=a3.ge a1 K0.size;clear a3;clear a9;refine jG ?_;refine jJ func56 ?_;replace K0:=K0.new a8 a1;exact⟨_,rfl,a2,a6,by rw[List.nil_append],by simpa using a7,aa,K0⟩
theorem VB (d m:Nat)(room:Int)(fs:List Am)(name:ByteArray)(w:World)(hD:Bd w d m room fs)(hs:name.size≤4294967295):
  Calls prog 176 #[jp d,.string name] w (AS (fun v w'=>∃a' c' bs,v= .tuple #[.slice a' bs.length c',.int .i64 (Cb (fs.map Am.p) name)]∧Af w' 5 a' c' bs∧(∀b,own a' b→w.heap.size≤b)∧bs=((Cs (fs.map Am.p) name).map (·.bytes)).getD []∧Aq w w')):=by
 obtain⟨hB,hM,hF,hmd,hfd,hfm,hok⟩:=hD;have hnd:=Bd.names hok;have hlens:=BK.lens hok;have hroom:=hok.room;have hused:=hok.used;have hcnt:=hok.len;rw[List.length_map]at hcnt;refine Ae (n:=22) func176 rfl rfl rfl ?_;refine jG ?_;refine jR<|jC (JZ d m room fs name _ (⟨hB,hM,hF,hmd,hfd,hfm,hok⟩:Bd _ d m room fs) Zo) ?_;rintro _ a7 ⟨a0,(⟨hmay,rfl⟩|⟨hmay,hno,rfl⟩|⟨hmay,l1,f,l2,hfs,hfn,rfl⟩)⟩
 ·replace hB:=hB.ext a0
  have K0:=(a0:Aq w _);refine jG ?_;refine Ed ?_;refine jG ?_;refine jK func176 ?_;replace hM:=hM.ext a0;replace hF:=hF.ext a0;exact⟨_,rfl,none,0,[],by rw[F3 hmay];rfl,Af.nil _ _,fun b h=>absurd h (Ac b),by rw[GT (ST hok hmay)];rfl,K0⟩
 ·replace hB:=hB.ext a0
  have K0:=(a0:Aq w _);refine jG ?_;refine Ed ?_;refine jG ?_;refine jK func176 ?_;replace hM:=hM.ext a0;replace hF:=hF.ext a0;exact⟨_,rfl,none,0,[],by rw[GR hmay hno];rfl,Af.nil _ _,fun b h=>absurd h (Ac b),by rw[GT hno];rfl,K0⟩
 ·replace hB:=hB.ext a0
  have K0:=(a0:Aq w _);have hfl:=hlens f (Dx hfs);refine jG ?_;refine Aj.condF rfl ?_;replace hF:=hF.ext a0;have hfx:=hF.all f (Dx hfs);have hb:=hfx.blk;have hsl:=hfx.own.sl;refine jG ?_;refine jR<|jC (Nm _ _ _ _ hsl Zo) ?_;rintro _ a8 ⟨a2,a3,rfl,a4,a1,a5⟩;have a6:=A1 K0.size a1;clear a1;refine jG ?_;refine jK func176 ?_;replace K0:=K0.ext a5;exact⟨_,rfl,a2,a3,f.bytes,by rw[GS hmay hfs hfn],a4,a6,by rw[IR hnd hfs hfn];rfl,K0⟩
theorem VC (d m:Nat)(room:Int)(fs:List Am)(name:ByteArray)(w:World)(hD:Bd w d m room fs)(hs:name.size≤4294967295):
  Calls prog 58 #[jp d,.string name] w (AS (fun v w'=>v= .tuple #[.int .i64 ((((Cs (fs.map Am.p) name).map (·.bytes.length)).getD 0:Nat):Int),.int .i64 ((((Cs (fs.map Am.p) name).map (·.synced)).getD 0:Nat):Int),.int .i64 (Cb (fs.map Am.p) name)]∧Aq w w')):=by
 obtain⟨hB,hM,hF,hmd,hfd,hfm,hok⟩:=hD;have hnd:=Bd.names hok;have hlens:=BK.lens hok;have hroom:=hok.room;have hused:=hok.used;have hcnt:=hok.len;rw[List.length_map]at hcnt;refine Ae (n:=26) func58 rfl rfl rfl ?_;refine jG ?_;refine jR<|jC (JZ d m room fs name _ (⟨hB,hM,hF,hmd,hfd,hfm,hok⟩:Bd _ d m room fs) Zo) ?_;rintro _ a2 ⟨a0,(⟨hmay,rfl⟩|⟨hmay,hno,rfl⟩|⟨hmay,l1,f,l2,hfs,hfn,rfl⟩)⟩
 ·replace hB:=hB.ext a0
  have K0:=(a0:Aq w _);refine jG ?_;refine Ed ?_;refine jG ?_;refine Aj.ret3 (v:= .int .i64 0) (x:= .int .i64 0) (y:= .int .i64 6) func58 rfl rfl rfl rfl ?_;replace hM:=hM.ext a0;replace hF:=hF.ext a0;exact⟨_,rfl,by rw[F3 hmay,GT (ST hok hmay)];rfl,K0⟩
 ·replace hB:=hB.ext a0
  have K0:=(a0:Aq w _);refine jG ?_;refine Ed ?_;refine jG ?_;refine Aj.ret3 (v:= .int .i64 0) (x:= .int .i64 0) (y:= .int .i64 20) func58 rfl rfl rfl rfl ?_;replace hM:=hM.ext a0;replace hF:=hF.ext a0;exact⟨_,rfl,by rw[GR hmay hno,GT hno];rfl,K0⟩
 ·replace hB:=hB.ext a0
  have K0:=(a0:Aq w _);have hfl:=hlens f (Dx hfs);refine jG ?_;refine Aj.condF rfl ?_;refine jG ?_;replace hF:=hF.ext a0;have hfx:=hF.all f (Dx hfs);have hb:=hfx.blk;have hsl:=hfx.own.sl;refine Aj.drawR ?_;intro a3 a1;replace hb:=hb.ext a1;refine jG ?_;refine Aj.ret3 (v:= .int .i64 ((f.bytes.length:Nat):Int)) (x:= .int .i64 ((f.synced:Nat):Int)) (y:= .int .i64 0) func58 rfl rfl rfl rfl ?_;replace K0:=K0.ext a1;exact⟨_,rfl,by rw[GS hmay hfs hfn,IR hnd hfs hfn];rfl,K0⟩
theorem VD (d m:Nat)(room:Int)(fs:List Am)(name:ByteArray)(w:World)(hD:Bd w d m room fs)(hs:name.size≤4294967295):
  Calls prog 93 #[jp d,.string name] w (AS (fun v w'=>∃fs',v= .int .i64 (Cb (fs.map Am.p) name)∧Bd w' d m room fs'∧fs'.map Am.p=Cj (fs.map Am.p) name∧(∀q,Be d m fs' q→q<w.heap.size→Be d m fs q)∧Ah (Be d m fs) w w')):=by
 obtain⟨hB,hM,hF,hmd,hfd,hfm,hok⟩:=hD;have hnd:=Bd.names hok;have hlens:=BK.lens hok;have hroom:=hok.room;have hused:=hok.used;have hcnt:=hok.len;rw[List.length_map]at hcnt;refine Ae (n:=24) func93 rfl rfl rfl ?_;refine jG ?_;refine jR<|jC (JZ d m room fs name _ (⟨hB,hM,hF,hmd,hfd,hfm,hok⟩:Bd _ d m room fs) Zo) ?_;rintro _ ac ⟨a0,(⟨hmay,rfl⟩|⟨hmay,hno,rfl⟩|⟨hmay,l1,f,l2,hfs,hfn,rfl⟩)⟩
 ·replace hB:=hB.ext a0
  have K0:=(a0:Aq w _).to (S:=(Be d m fs));refine jG ?_;refine Aj.condF rfl ?_;refine jG ?_;refine jJ func93 ?_;replace hM:=hM.ext a0;replace hF:=hF.ext a0;exact⟨_,rfl,fs,by rw[F3 hmay],⟨hB,hM,hF,hmd,hfd,hfm,hok⟩,by rw[Cj,Nl (UJ (ST hok hmay))],fun _ h _=>h,K0⟩
 ·replace hB:=hB.ext a0
  have K0:=(a0:Aq w _).to (S:=(Be d m fs));refine jG ?_;refine Aj.condF rfl ?_;refine jG ?_;refine jJ func93 ?_;replace hM:=hM.ext a0;replace hF:=hF.ext a0;exact⟨_,rfl,fs,by rw[GR hmay hno],⟨hB,hM,hF,hmd,hfd,hfm,hok⟩,by rw[Cj,Nl (UJ hno)],fun _ h _=>h,K0⟩
 ·replace hB:=hB.ext a0
  have K0:=(a0:Aq w _).to (S:=(Be d m fs));have hfl:=hlens f (Dx hfs);refine jG ?_;refine Ed ?_;replace hF:=hF.ext a0;obtain⟨hfa,hR,hRf⟩:=hF.openE hfs;obtain⟨hb,ho,hoa⟩:=hfa;have ad:f.blk≠d:=fun e_=>hfd (by first|(rw[←e_];exact(DJ hfs))|rw[←e_]);have a2:¬one m f.blk:=fun h_=>hfm _ (DJ hfs) h_;have a3:f.blk<w.heap.size→(Be d m fs) f.blk:=fun hl_=>(fun q_ h_ _=>Or.inr (Or.inr h_)) _ (DJ hfs) hl_;have a5:¬own f.a d:=fun h_=>hfd ((Dd hfs) _ h_);have a6:∀q_,own f.a q_→¬one m q_:=fun q_ h_=>hfm q_ ((Dd hfs) q_ h_);have a7:¬AO (l1++l2) d:=fun h_=>hfd ((Cw hfs) _ h_);have a8:∀q_,AO (l1++l2) q_→¬one m q_:=fun q_ h_=>hfm q_ ((Cw hfs) q_ h_);clear hF;refine jG ?_;refine jR<|jS hb ?_;intro a4 hb a1;replace K0:=K0.trans a1 (fun x hlt hx=>by simp only[one]at hx;subst hx;exact a3 hlt);refine jG ?_;refine jJ func93 ?_;replace ho:=ho.keepO a1 (Ab hoa);replace hR:=hR.keepO a1 (fun q_ hq_ eq_=>(fun h_=>hRf _ h_ (Or.inl rfl)) (by simp only[one]at eq_;rw[←eq_];exact hq_));have hF':AN a4 (l1++(⟨f.name,f.blk,f.a,f.cap,f.bytes,f.bytes.length⟩:Am)::l2):=AN.close ⟨hb,ho,hoa⟩ hR (fun q_ h1 h2=>h2.elim (fun e_=>(fun h_=>hRf _ h_ (Or.inl rfl)) (show AO (l1++l2) f.blk from(show q_=f.blk from e_)▸h1)) (fun y_=>(fun q_ h1 h2=>hRf q_ h1 (Or.inr h2)) q_ h1 y_));have a9:¬AO (l1++(⟨f.name,f.blk,f.a,f.cap,f.bytes,f.bytes.length⟩:Am)::l2) d:=fun x_=>(CO _ x_).elim (fun e_=>absurd e_ Zo) (fun y_=>y_.elim a5 (fun y_=>a7 y_));have aa:∀q_,AO (l1++(⟨f.name,f.blk,f.a,f.cap,f.bytes,f.bytes.length⟩:Am)::l2) q_→¬one m q_:=fun q_ x_ z_=>(CO _ x_).elim (fun e_=>a2 (show one m f.blk from e_▸z_)) (fun y_=>y_.elim (fun y_=>a6 q_ y_ z_) (fun y_=>(fun y_=>a8 q_ y_ z_) y_));have ab:∀q_,AO (l1++(⟨f.name,f.blk,f.a,f.cap,f.bytes,f.bytes.length⟩:Am)::l2) q_→q_<w.heap.size→(Be d m fs) q_:=fun q_ x_ hl_=>(CO _ x_).elim (fun e_=>e_▸a3 (e_▸hl_)) (fun y_=>y_.elim (fun y_=>(fun q_ h_ hl_=>(fun q_ h_ _=>Or.inr (Or.inr h_)) q_ ((Dd hfs) q_ h_) hl_) q_ y_ hl_) (fun y_=>(fun y_=>(fun q_ h_ hl_=>(fun q_ h_ _=>Or.inr (Or.inr h_)) q_ ((Cw hfs) q_ h_) hl_) q_ y_ hl_) y_));replace hM:=(hM.ext a0).keepO a1 (Ab a2);have hme:AQ a4 m (Bp (l1++(⟨f.name,f.blk,f.a,f.cap,f.bytes,f.bytes.length⟩:Am)::l2)):=by first|exact hM|(have h_:=hM;rw[KZ hfs]at h_;exact h_)
  replace hB:=hB.kp a1;exact⟨_,rfl,(l1++(⟨f.name,f.blk,f.a,f.cap,f.bytes,f.bytes.length⟩:Am)::l2),by rw[GS hmay hfs hfn],⟨hB,hme,hF',hmd,a9,aa,by rw[Oj hnd hfs hfn];exact hok.syn⟩,Oj hnd hfs hfn,Ei ab,K0⟩
theorem append_ (d m:Nat)(room:Int)(fs:List Am)(name:ByteArray)(a:Option Addr)(b:List UInt8)(c:Nat)(w:World)(hD:Bd w d m room fs)(hs:name.size≤4294967295)(hsl:As w a b)(hdis:∀x,a=some x→b≠ []→¬Be d m fs x.block)(hbl:b.length≤4294967295):
  Calls prog 95 #[jp d,.string name,.slice a b.length c] w (AS (fun v w'=>∃fs',v= .int .i64 (CN room (fs.map Am.p) name b)∧Bd w' d m room fs'∧fs'.map Am.p=CH room (fs.map Am.p) name b∧(∀q,Be d m fs' q→q<w.heap.size→Be d m fs q)∧Ah (Be d m fs) w w')):=by
 obtain⟨hB,hM,hF,hmd,hfd,hfm,hok⟩:=hD;have hnd:=Bd.names hok;have hlens:=BK.lens hok;have hroom:=hok.room;have hused:=hok.used;have hcnt:=hok.len;rw[List.length_map]at hcnt;have hel:(Bp fs).length=fs.length:=List.length_map ..;refine Ae (n:=63) func95 rfl rfl rfl ?_;refine jG ?_;refine jR<|jC (JZ d m room fs name _ (⟨hB,hM,hF,hmd,hfd,hfm,hok⟩:Bd _ d m room fs) Zo) ?_;rintro _ aT ⟨a1,(⟨hmay,rfl⟩|⟨hmay,hno,rfl⟩|⟨hmay,l1,f,l2,hfs,hfn,rfl⟩)⟩
 ·replace hB:=hB.ext a1
  have K0:=(a1:Aq w _).to (S:=(Be d m fs));refine jG ?_;refine jV (Bv rfl rfl rfl) ?_;refine jG ?_;refine Ed ?_;refine jG ?_;refine jJ func95 ?_;replace hM:=hM.ext a1;replace hF:=hF.ext a1;exact⟨_,rfl,fs,by rw[LQ hmay],⟨hB,hM,hF,hmd,hfd,hfm,hok⟩,by rw[KY (by rw[LQ hmay];decide)],fun _ h _=>h,K0⟩
 ·replace hB:=hB.ext a1
  have K0:=(a1:Aq w _).to (S:=(Be d m fs));refine jG ?_;refine jV (Bv rfl rfl rfl) ?_;refine jG ?_;refine Aj.condF rfl ?_;refine jG ?_;refine Aj.drawS [] [0,1,2,3,4,5,1006,1007,8,9,10,11,12,13,14,15,1016,17,2018,19,20,21] ?_;intro aU ae;replace hM:=(hM.ext a1).ext ae;replace hB:=hB.ext ae;refine⟨fun w'=>AA w' d [.map (some m),.int .i64 room] 120∧AQ w' m (Bp fs)∧True,⟨hB,hM,trivial⟩,?_⟩;refine jG ?_;refine jP ?_ (hx:=by exact fun _=>(Cq (C0 underlying121 rfl rfl) rfl));refine jG ?_;refine jI ?_ (hx:=by exact(fun hg=>by rintro _ ⟨hB,hM,-⟩;exact(QB underlying118 rfl hM)));refine jG ?_;refine jP ?_ (hx:=by exact fun _=>(Bv rfl rfl rfl));refine jG ?_;replace hF:=(hF.ext a1).ext ae;refine jZ (fun hg=>(Ue d m room fs _ (⟨hB,hM,hF,hmd,hfd,hfm,hok⟩:Bd _ d m room fs))) ?_;intro aV af;replace hB:=hB.ext af;replace hM:=hM.ext af;refine jG ?_;refine jQ ?_ (hx:=by exact fun _ hg=>(BE (Bf hg) (Bf hg) Zo Zo));refine jG ?_;refine jP ?_ (hx:=by exact fun _=>(CI rfl rfl rfl));refine jG ?_;replace K0:=(K0.ext ae).ext af;replace hF:=hF.ext af;refine jF ?_ ?_
  ·intro hc43
   refine jG ?_;refine jJ func95 ?_;have he7:CN room (fs.map Am.p) name b=7:=J2 hmay (by first|exact .inr hc43|(rcases hc43 with h|h;exact .inl ⟨GQ hno,by rw[List.length_map];omega⟩;exact .inr h));exact⟨_,rfl,fs,by rw[he7],⟨hB,hM,hF,hmd,hfd,hfm,hok⟩,by rw[KY (by rw[he7];decide)],fun _ h _=>h,K0⟩
  ·intro hc43
   have he0:CN room (fs.map Am.p) name b=0:=Ok hmay (by rintro(⟨h1,h2⟩|h1);rw[List.length_map]at h2;omega;omega);refine jG ?_;refine jV (Cq (C0 underlying121 rfl rfl) rfl) ?_;refine jG ?_;refine Ed ?_;refine jG ?_;refine jV (AC (cells:=#[.slice none 0 0,.int .i64 0]) Zk) ?_;refine jR<|jB ?_;intro a0 aW a9 a4 ag;have aX:=Ai hB.lt a9;have am:=Al hM.own_lt a9;have ao:=Al hF.own_lt a9;have:=Nat.le_trans K0.size a9;clear a9;replace hB:=hB.ext ag;refine jG ?_;replace hM:=hM.ext ag;refine jR<|Av.mapUpdate (v:=jp a0) underlying118 underlying9 rfl rfl rfl rfl hM ?_;intro ap ah ai;replace ah:AQ ap m (Bp (fs++[⟨name,a0,none,0,[],0⟩])):=(GP hno a0 none 0 [] 0▸ah);replace K0:=K0.ext ag;replace K0:=K0.trans ai (fun x hlt hx=>(fun q_ h_ _=>Or.inr (Or.inl h_)) x hx hlt);replace hM:=ah;clear ah;replace a4:=a4.keep ai am;refine jG ?_;have aA:=Af.nil (α:=UInt8) ap 5;refine jR<|Av.append (xs:=([]:List UInt8)) (ys:=b) underlying98 ty5 rfl rfl rfl aA (hsl.keepN K0 hdis) Zr Zd ?_;intro a2 a5 aY aj aa a6 aB;replace hB:=hB.keep ai hmd;have aC:¬own a2 d:=a6.not (Ac d) hB.lt;have aD:∀q_,own a2 q_→¬one m q_:=a6.apart (fun q_ h1 _=>Ac q_ h1) hM.own_lt;replace hF:=(hF.ext ag).keepO ai hfm;have aE:∀q_,own a2 q_→¬AO fs q_:=a6.apart (fun q_ h1 _=>Ac q_ h1) hF.own_lt;have aq:¬own a2 a0:=a6.not (Ac a0) a4.lt;have aF:∀q_,own a2 q_→q_<w.heap.size→(Be d m fs) q_:=a6.inS (fun q_ h1 _=>absurd h1 (Ac q_)) K0.size;replace K0:=K0.trans aa (fun x hlt hx=>(fun q_ h1 _=>absurd h1 (Ac q_)) x hx hlt);clear a6;clear aB;refine jG ?_;replace a4:=a4.keep aa (Ac a0);refine jR<|jS a4 ?_;intro ar a4 ab;replace K0:=K0.n1 ab;refine jG ?_;refine jJ func95 ?_;replace aj:=aj.keepO ab (Ab aq);simp only[List.nil_append]at a4 aj;replace hF:=(hF.keepO aa (fun q_ h1 h2=>(fun q_ h1 _=>Ac q_ h1) q_ h2 h1)).keepO ab (Ab ao);have hF':AN ar (fs++[(⟨name,a0,a2,a5,b,0⟩:Am)]):=AN.snoc ⟨a4,aj,aq⟩ hF (fun q_ h1 h2=>h2.elim (fun e_=>ao (show AO fs a0 from(show q_=a0 from e_)▸h1)) (fun y_=>(Zf aE) q_ h1 y_));have aG:¬AO (fs++[(⟨name,a0,a2,a5,b,0⟩:Am)]) d:=fun x_=>(Hu _ x_).elim (fun e_=>absurd e_ Zo) (fun y_=>y_.elim aC (fun y_=>hfd y_));have aH:∀q_,AO (fs++[(⟨name,a0,a2,a5,b,0⟩:Am)]) q_→¬one m q_:=fun q_ x_ z_=>(Hu _ x_).elim (fun e_=>am (show one m a0 from e_▸z_)) (fun y_=>y_.elim (fun y_=>aD q_ y_ z_) (fun y_=>(fun y_=>hfm q_ y_ z_) y_));have aI:∀q_,AO (fs++[(⟨name,a0,a2,a5,b,0⟩:Am)]) q_→q_<w.heap.size→(Be d m fs) q_:=fun q_ x_ hl_=>(Hu _ x_).elim (fun e_=>absurd hl_ Zo) (fun y_=>y_.elim (fun y_=>aF q_ y_ hl_) (fun y_=>(fun y_=>(fun q_ h_ _=>Or.inr (Or.inr h_)) q_ y_ hl_) y_));replace hM:=(hM.keepO aa (fun q_ h1 h2=>(fun q_ h1 _=>Ac q_ h1) q_ h2 h1)).keepO ab (Ab am);have hme:AQ ar m (Bp (fs++[(⟨name,a0,a2,a5,b,0⟩:Am)])):=by first|exact hM|(have h_:=hM;rw[Pj name a0 none a2 0 a5 [] b 0 0]at h_;exact h_)
   replace hB:=(hB.keep aa (Ac d)).kp ab;exact⟨_,rfl,(fs++[(⟨name,a0,a2,a5,b,0⟩:Am)]),by rw[he0],⟨hB,hme,hF',hmd,aG,aH,by rw[Ol he0 hno _ _ _];exact hok.app⟩,Ol he0 hno _ _ _,Ei aI,K0⟩
 ·replace hB:=hB.ext a1
  have K0:=(a1:Aq w _).to (S:=(Be d m fs));have hfl:=hlens f (Dx hfs);refine jG ?_;refine jV (AJ (b:=false) (e:=false) rfl rfl rfl) ?_;refine jG ?_;refine Aj.condF rfl ?_;refine jG ?_;refine Aj.drawS [] [0,1,2,3,4,5,6,7,8,9,10,11,12,13,14,15,1016,17,2018,19,20,21] ?_;intro aZ ak;replace hB:=hB.ext ak;refine jM (jb hB Jn) ?_;refine jG ?_;refine jP ?_ (hx:=by exact fun _=>(CW (C0 underlying121 rfl rfl) rfl));refine jG ?_;refine jP ?_ (hx:=by exact fun _=>(AJ (b:=false) (e:=false) rfl rfl rfl));refine jG ?_;replace hM:=(hM.ext a1).ext ak;replace hF:=(hF.ext a1).ext ak;refine jX rfl<|jC (Ue d m room fs _ (⟨hB,hM,hF,hmd,hfd,hfm,hok⟩:Bd _ d m room fs)) ?_;rintro _ b0 ⟨rfl,al⟩;replace hB:=hB.ext al;refine jG ?_;refine jQ ?_ (hx:=by exact fun _ hg=>(BE rfl rfl Zo Zo));refine jG ?_;refine jP ?_ (hx:=by exact fun _=>(Dh rfl rfl rfl));refine jG ?_;replace K0:=(K0.ext ak).ext al;replace hM:=hM.ext al;replace hF:=hF.ext al;refine jF ?_ ?_
  ·intro hc43
   refine jG ?_;refine jJ func95 ?_;have he7:CN room (fs.map Am.p) name b=7:=J2 hmay (by first|exact .inr hc43|(rcases hc43 with h|h;exact .inl ⟨GQ hno,by rw[List.length_map];omega⟩;exact .inr h));exact⟨_,rfl,fs,by rw[he7],⟨hB,hM,hF,hmd,hfd,hfm,hok⟩,by rw[KY (by rw[he7];decide)],fun _ h _=>h,K0⟩
  ·intro hc43
   have he0:CN room (fs.map Am.p) name b=0:=Ok hmay (by rintro(⟨h1,h2⟩|h1);rw[Ie hfs hfn]at h1;cases h1;omega);refine jG ?_;refine jV (CW (C0 underlying121 rfl rfl) rfl) ?_;refine jG ?_;refine Aj.condF rfl ?_;obtain⟨hfa,hR,hRf⟩:=hF.openE hfs;obtain⟨hb,ho,hoa⟩:=hfa;have b1:f.blk≠d:=fun e_=>hfd (by first|(rw[←e_];exact(DJ hfs))|rw[←e_]);have au:¬one m f.blk:=fun h_=>hfm _ (DJ hfs) h_;have av:f.blk<w.heap.size→(Be d m fs) f.blk:=fun hl_=>(fun q_ h_ _=>Or.inr (Or.inr h_)) _ (DJ hfs) hl_;have aw:¬own f.a d:=fun h_=>hfd ((Dd hfs) _ h_);have ax:∀q_,own f.a q_→¬one m q_:=fun q_ h_=>hfm q_ ((Dd hfs) q_ h_);have aJ:¬AO (l1++l2) d:=fun h_=>hfd ((Cw hfs) _ h_);have aK:∀q_,AO (l1++l2) q_→¬one m q_:=fun q_ h_=>hfm q_ ((Cw hfs) q_ h_);clear hF;refine jG ?_;refine jR<|Av.append (xs:=f.bytes) (ys:=b) underlying98 ty5 rfl rfl rfl ho (hsl.keepN K0 hdis) Zr Zd ?_;intro a3 a7 b2 an ac a8 aL;have aM:¬own a3 d:=a8.not aw hB.lt;have aN:∀q_,own a3 q_→¬one m q_:=a8.apart ax hM.own_lt;have ay:¬own a3 f.blk:=a8.not hoa hb.lt;have aO:∀q_,own a3 q_→¬AO (l1++l2) q_:=a8.apart (fun q_ h1 h2=>(fun q_ h1 h2=>hRf q_ h1 (Or.inr h2)) q_ h2 h1) hR.own_lt;have aP:∀q_,own a3 q_→q_<w.heap.size→(Be d m fs) q_:=a8.inS (fun q_ h_ hl_=>(fun q_ h_ _=>Or.inr (Or.inr h_)) q_ ((Dd hfs) q_ h_) hl_) K0.size;replace K0:=K0.trans ac (fun x hlt hx=>(fun q_ h_ hl_=>(fun q_ h_ _=>Or.inr (Or.inr h_)) q_ ((Dd hfs) q_ h_) hl_) x hx hlt);clear a8;clear aL;refine jG ?_;replace hb:=hb.keep ac hoa;refine jR<|jS hb ?_;intro az hb ad;replace K0:=K0.trans ad (fun x hlt hx=>by simp only[one]at hx;subst hx;exact av hlt);refine jG ?_;refine jJ func95 ?_;replace hR:=(hR.keepO ac (fun q_ h1 h2=>hRf q_ h1 (Or.inr h2))).keepO ad (fun q_ hq_ eq_=>(fun h_=>hRf _ h_ (Or.inl rfl)) (by simp only[one]at eq_;rw[←eq_];exact hq_));replace an:=an.keepO ad (Ab ay);have hF':AN az (l1++(⟨f.name,f.blk,a3,a7,f.bytes++b,f.synced⟩:Am)::l2):=AN.close ⟨hb,an,ay⟩ hR (fun q_ h1 h2=>h2.elim (fun e_=>(fun h_=>hRf _ h_ (Or.inl rfl)) (show AO (l1++l2) f.blk from(show q_=f.blk from e_)▸h1)) (fun y_=>(Zf aO) q_ h1 y_));have aQ:¬AO (l1++(⟨f.name,f.blk,a3,a7,f.bytes++b,f.synced⟩:Am)::l2) d:=fun x_=>(CO _ x_).elim (fun e_=>absurd e_ Zo) (fun y_=>y_.elim aM (fun y_=>aJ y_));have aR:∀q_,AO (l1++(⟨f.name,f.blk,a3,a7,f.bytes++b,f.synced⟩:Am)::l2) q_→¬one m q_:=fun q_ x_ z_=>(CO _ x_).elim (fun e_=>au (show one m f.blk from e_▸z_)) (fun y_=>y_.elim (fun y_=>aN q_ y_ z_) (fun y_=>(fun y_=>aK q_ y_ z_) y_));have aS:∀q_,AO (l1++(⟨f.name,f.blk,a3,a7,f.bytes++b,f.synced⟩:Am)::l2) q_→q_<w.heap.size→(Be d m fs) q_:=fun q_ x_ hl_=>(CO _ x_).elim (fun e_=>e_▸av (e_▸hl_)) (fun y_=>y_.elim (fun y_=>aP q_ y_ hl_) (fun y_=>(fun y_=>(fun q_ h_ hl_=>(fun q_ h_ _=>Or.inr (Or.inr h_)) q_ ((Cw hfs) q_ h_) hl_) q_ y_ hl_) y_));replace hM:=(hM.keepO ac (Zf ax)).keepO ad (Ab au);have hme:AQ az m (Bp (l1++(⟨f.name,f.blk,a3,a7,f.bytes++b,f.synced⟩:Am)::l2)):=by first|exact hM|(have h_:=hM;rw[KZ hfs]at h_;exact h_)
   replace hB:=(hB.keep ac aw).kp ad;exact⟨_,rfl,(l1++(⟨f.name,f.blk,a3,a7,f.bytes++b,f.synced⟩:Am)::l2),by rw[he0],⟨hB,hme,hF',hmd,aQ,aR,by rw[QS he0 hnd hfs hfn _ _];exact hok.app⟩,QS he0 hnd hfs hfn _ _,Ei aS,K0⟩
theorem SU (d m:Nat)(room:Int)(fs:List Am)(name:ByteArray)(w:World)(hD:Bd w d m room fs)(hs:name.size≤4294967295):
  Calls prog 112 #[jp d,.string name] w (AS (fun v w'=>∃fs',v= .int .i64 (Cb (fs.map Am.p) name)∧Bd w' d m room fs'∧fs'.map Am.p=A3 (fs.map Am.p) name∧(∀q,Be d m fs' q→q<w.heap.size→Be d m fs q)∧Ah (Be d m fs) w w')):=by
 obtain⟨hB,hM,hF,hmd,hfd,hfm,hok⟩:=hD;have hnd:=Bd.names hok;have hlens:=BK.lens hok;have hroom:=hok.room;have hused:=hok.used;have hcnt:=hok.len;rw[List.length_map]at hcnt;refine Ae (n:=21) func112 rfl rfl rfl ?_;refine jG ?_;refine jR<|jC (JZ d m room fs name _ (⟨hB,hM,hF,hmd,hfd,hfm,hok⟩:Bd _ d m room fs) Zo) ?_;rintro _ a6 ⟨a0,(⟨hmay,rfl⟩|⟨hmay,hno,rfl⟩|⟨hmay,l1,f,l2,hfs,hfn,rfl⟩)⟩
 ·replace hB:=hB.ext a0
  have K0:=(a0:Aq w _).to (S:=(Be d m fs));refine jG ?_;refine Aj.condF rfl ?_;refine jG ?_;refine jJ func112 ?_;replace hM:=hM.ext a0;replace hF:=hF.ext a0;exact⟨_,rfl,fs,by rw[F3 hmay],⟨hB,hM,hF,hmd,hfd,hfm,hok⟩,by rw[Hr (UJ (ST hok hmay))],fun _ h _=>h,K0⟩
 ·replace hB:=hB.ext a0
  have K0:=(a0:Aq w _).to (S:=(Be d m fs));refine jG ?_;refine Aj.condF rfl ?_;refine jG ?_;refine jJ func112 ?_;replace hM:=hM.ext a0;replace hF:=hF.ext a0;exact⟨_,rfl,fs,by rw[GR hmay hno],⟨hB,hM,hF,hmd,hfd,hfm,hok⟩,by rw[Hr (UJ hno)],fun _ h _=>h,K0⟩
 ·replace hB:=hB.ext a0
  have K0:=(a0:Aq w _).to (S:=(Be d m fs));have hfl:=hlens f (Dx hfs);refine jG ?_;refine Ed ?_;refine jG ?_;replace hM:=hM.ext a0;refine jR<|Av.deleteMap underlying118 underlying9 rfl rfl rfl hM ?_;intro a2 a1 a3;replace a1:AQ a2 m (Bp (l1++l2)):=(by have h_:=a1;rw[J3 hnd hfs hfn]at h_;exact h_);replace K0:=K0.trans a3 (fun x hlt hx=>(fun q_ h_ _=>Or.inr (Or.inl h_)) x hx hlt);replace hM:=a1;clear a1;refine jG ?_;refine jJ func112 ?_;replace hF:=(hF.ext a0).keepO a3 hfm;have hF':AN a2 (l1++l2):=(hF.openE hfs).2.1;have a4:¬AO (l1++l2) d:=fun h_=>hfd ((Cw hfs) _ h_);have a5:∀q_,AO (l1++l2) q_→¬one m q_:=fun q_ h_=>hfm q_ ((Cw hfs) q_ h_);have hme:AQ a2 m (Bp (l1++l2)):=by first|exact hM|(have h_:=hM;rw[KZ hfs]at h_;exact h_)
  replace hB:=hB.keep a3 hmd;exact⟨_,rfl,(l1++l2),by rw[GS hmay hfs hfn],⟨hB,hme,hF',hmd,a4,a5,by rw[(KW hnd hfs hfn).symm];exact hok.rem⟩,(KW hnd hfs hfn).symm,Ei (fun q_ h_ hl_=>(fun q_ h_ _=>Or.inr (Or.inr h_)) q_ ((Cw hfs) q_ h_) hl_),K0⟩
theorem SV (d m:Nat)(room:Int)(fs:List Am)(name name2:ByteArray)(w:World)(hD:Bd w d m room fs)(hs:name.size≤4294967295)(hs2:name2.size≤4294967295):
  Calls prog 189 #[jp d,.string name,.string name2] w (AS (fun v w'=>∃fs',v= .int .i64 (Ez (fs.map Am.p) name name2)∧Bd w' d m room fs'∧(fs'.map Am.p).Perm (Gi (fs.map Am.p) name name2)∧(∀q,Be d m fs' q→q<w.heap.size→Be d m fs q)∧Ah (Be d m fs) w w')):=by
 obtain⟨hB,hM,hF,hmd,hfd,hfm,hok⟩:=hD;have hnd:=Bd.names hok;have hlens:=BK.lens hok;have hroom:=hok.room;have hused:=hok.used;have hcnt:=hok.len;rw[List.length_map]at hcnt;refine Ae (n:=39) func189 rfl rfl rfl ?_;refine jG ?_;refine jR<|jC (JZ d m room fs name _ (⟨hB,hM,hF,hmd,hfd,hfm,hok⟩:Bd _ d m room fs) Zo) ?_;rintro _ ab ⟨a0,(⟨hmay,rfl⟩|⟨hmay,hno,rfl⟩|⟨hmay,l1,f,l2,hfs,hfn,rfl⟩)⟩
 ·replace hB:=hB.ext a0
  have K0:=(a0:Aq w _).to (S:=(Be d m fs));refine jG ?_;refine jV (Dh rfl rfl rfl) ?_;refine jG ?_;refine Ed ?_;refine jG ?_;refine jJ func189 ?_;replace hM:=hM.ext a0;replace hF:=hF.ext a0;exact⟨_,rfl,fs,by rw[LR hmay],⟨hB,hM,hF,hmd,hfd,hfm,hok⟩,by rw[If (by rw[LR hmay];decide)],fun _ h _=>h,K0⟩
 ·replace hB:=hB.ext a0
  have K0:=(a0:Aq w _).to (S:=(Be d m fs));refine jG ?_;refine jV (Dh rfl rfl rfl) ?_;refine jG ?_;refine Aj.condF rfl ?_;refine jG ?_;refine jR<|jC (UI name2 _ Zo) ?_;rintro _ ac ⟨rfl,a1⟩;refine jG ?_;replace hM:=(hM.ext a0).ext a1;replace hF:=(hF.ext a0).ext a1;replace hB:=hB.ext a1;replace K0:=K0.ext a1;refine jF ?_ ?_
  ·intro hc24
   refine jG ?_;refine jJ func189 ?_;exact⟨_,rfl,fs,by rw[F4 hmay (by simpa using hc24)],⟨hB,hM,hF,hmd,hfd,hfm,hok⟩,by rw[If (by rw[F4 hmay (by simpa using hc24)];decide)],fun _ h _=>h,K0⟩
  ·intro hc24
   refine jG ?_;refine Ed ?_;refine jG ?_;refine jJ func189 ?_;exact⟨_,rfl,fs,by rw[Om hmay (by simpa using hc24) hno],⟨hB,hM,hF,hmd,hfd,hfm,hok⟩,by rw[If (by rw[Om hmay (by simpa using hc24) hno];decide)],fun _ h _=>h,K0⟩
 ·replace hB:=hB.ext a0
  have K0:=(a0:Aq w _).to (S:=(Be d m fs));have hfl:=hlens f (Dx hfs);refine jG ?_;refine jV (Dh rfl rfl rfl) ?_;refine jG ?_;refine Aj.condF rfl ?_;refine jG ?_;refine jR<|jC (UI name2 _ Zo) ?_;rintro _ ad ⟨rfl,a2⟩;refine jG ?_;replace hM:=(hM.ext a0).ext a2;replace hF:=(hF.ext a0).ext a2;replace hB:=hB.ext a2;replace K0:=K0.ext a2;refine jF ?_ ?_
  ·intro hc24
   refine jG ?_;refine jJ func189 ?_;exact⟨_,rfl,fs,by rw[F4 hmay (by simpa using hc24)],⟨hB,hM,hF,hmd,hfd,hfm,hok⟩,by rw[If (by rw[F4 hmay (by simpa using hc24)];decide)],fun _ h _=>h,K0⟩
  ·intro hc24
   refine jG ?_;refine Aj.condF rfl ?_;refine jG ?_;refine jR<|Av.deleteMap underlying118 underlying9 rfl rfl rfl hM ?_;intro a8 a3 a5;replace a3:AQ a8 m (Bp (l1++l2)):=(by have h_:=a3;rw[J3 hnd hfs hfn]at h_;exact h_);replace K0:=K0.trans a5 (fun x hlt hx=>(fun q_ h_ _=>Or.inr (Or.inl h_)) x hx hlt);replace hM:=a3;clear a3;replace hB:=hB.keep a5 hmd;refine jG ?_;refine jR<|Av.mapUpdate (v:=jp f.blk) underlying118 underlying9 rfl rfl rfl rfl hM ?_;intro a7 a4 a6;replace a4:AQ a7 m (Bp (renFs (l1++l2) ⟨name2,f.blk,f.a,f.cap,f.bytes,f.synced⟩)):=((Pk (g:=⟨name2,f.blk,f.a,f.cap,f.bytes,f.synced⟩) (J4 hnd hfs))▸a4);replace K0:=K0.trans a6 (fun x hlt hx=>(fun q_ h_ _=>Or.inr (Or.inl h_)) x hx hlt);replace hM:=a4;clear a4;refine jG ?_;refine jJ func189 ?_;replace hF:=(hF.keepO a5 hfm).keepO a6 hfm;have hF':AN a7 (renFs (l1++l2) ⟨name2,f.blk,f.a,f.cap,f.bytes,f.synced⟩):=QT (hF.openE hfs);have a9:¬AO (renFs (l1++l2) ⟨name2,f.blk,f.a,f.cap,f.bytes,f.synced⟩) d:=fun h_=>hfd ((Hw hfs) _ h_);have aa:∀q_,AO (renFs (l1++l2) ⟨name2,f.blk,f.a,f.cap,f.bytes,f.synced⟩) q_→¬one m q_:=fun q_ h_=>hfm q_ ((Hw hfs) q_ h_);have hpm:=UK hok hnd hfs hfn hmay (by simpa using hc24);replace hB:=hB.keep a6 hmd;exact⟨_,rfl,_,by rw[On hmay (by simpa using hc24) hfs hfn],⟨hB,hM,hF',hmd,a9,aa,hpm.2⟩,hpm.1,Ei (fun q_ h_ hl_=>(fun q_ h_ _=>Or.inr (Or.inr h_)) q_ ((Hw hfs) q_ h_) hl_),K0⟩
theorem Ws (room:Int)(w:World):
  Calls prog 25 #[.int .i64 room] w (AS (fun v w'=>(¬(0≤room∧room≤16777216)∧v= .tuple #[.pointer none,.int .i64 1]∧Aq w w')∨((0≤room∧room≤16777216)∧∃d m,v= .tuple #[jp d,.int .i64 0]∧Bd w' d m room []∧(∀q,Be d m [] q→w.heap.size≤q)∧Aq w w'))):=by
 refine Ae (n:=14) func25 rfl rfl rfl ?_;refine jG ?_;refine jV (CI rfl rfl rfl) ?_;refine jG ?_;refine jF ?_ ?_
 ·intro hc9
  refine jG ?_;refine jK func25 ?_;exact⟨_,rfl,.inl ⟨by omega,rfl,Ah.refl _ w⟩⟩
 ·intro hc9
  refine jG ?_;refine jR<|Av.makeMap (κ:=ByteArray) ?_;intro a2 aa a3 a0 a5;have a6:=A1 (Nat.le_refl _) (Eg a3);clear a3;have K0:=(a5:Aq w _);refine jG ?_;refine jV (AC (cells:=#[.map (some a2),.int .i64 room]) Zk) ?_;refine jR<|jB ?_;intro a7 ab a1 a8 a4;have a9:=Al a0.own_lt a1;have:=Nat.le_trans K0.size a1;clear a1;refine jG ?_;refine jK func25 ?_;replace a0:=a0.ext a4;replace K0:=K0.ext a4;exact⟨_,rfl,.inr ⟨by omega,a7,a2,rfl,⟨a8,a0,AN.nil _,a9,fun⟨_,h,_⟩=>absurd h Zs,fun _ ⟨_,h,_⟩=>absurd h Zs,BK.empty Zo⟩,fun q h=>h.elim (fun e=>by rw[e];omega) (fun h=>h.elim (fun e=>a6 q e) (fun⟨_,h,_⟩=>absurd h Zs)),K0⟩⟩
end Go.Proofs.YtjkaicjmfgekjaaGreatDoor
