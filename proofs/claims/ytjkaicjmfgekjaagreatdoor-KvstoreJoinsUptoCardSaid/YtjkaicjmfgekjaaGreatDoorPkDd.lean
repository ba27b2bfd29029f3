/-
  Dd, De, Df, Dg
-/
import Derived.Test.YtjkaicjmfgekjaaGreatDoorRows
import Derived.Test.YtjkaicjmfgekjaaGreatDoorPkDa
import Derived.Test.YtjkaicjmfgekjaaGreatDoorPkStr
import Derived.Test.YtjkaicjmfgekjaaGreatDoorPkI
set_option linter.all false
set_option maxRecDepth 100000
set_option maxHeartbeats 4000000
namespace Go.Proofs.YtjkaicjmfgekjaaGreatDoor
open Go.Proofs.Tryz
attribute [local irreducible] RD RS Av RL RA RT CJ Aj
structure LT where
 name:ByteArray
 keep:Int
 junk:SH
instance : Enc LT:=Enc.struct (fun t=>[.string t.name,.int .i64 t.keep,.slice t.junk.a t.junk.len t.junk.cap]) 3 (fun _=>rfl) (fun _ v hv=>by simp at hv;rcases hv with rfl|rfl|rfl<;>rfl) Zd
structure GU (w:World)(ss:List SH)(bss:List (List UInt8)):Prop where
 len:ss.length=bss.length
 all:∀(i:Nat) (s:SH) (bs:List UInt8),ss[i]? =some s→bss[i]? =some bs→s.len=bs.length∧As w s.a bs
theorem GU.ext {w w':World}{ss:List SH}{bss:List (List UInt8)}(h:GU w ss bss)(k:Aq w w'):GU w' ss bss:=
 ⟨h.len,fun i s bs h1 h2=>⟨(h.all i s bs h1 h2).1,(h.all i s bs h1 h2).2.ext k⟩⟩
theorem GU.two {w:World}{s t:SH}{a b:List UInt8}(h1:s.len=a.length)(h2:As w s.a a)(h3:t.len=b.length)(h4:As w t.a b):GU w [s,t] [a,b]:=
 ⟨rfl,fun i x bs hx hb=>by
  match i with
  |0=>simp at hx hb;subst hx;subst hb;exact⟨h1,h2⟩
  |1=>simp at hx hb;subst hx;subst hb;exact⟨h3,h4⟩
  |i+2=>simp at hx⟩
structure Ig (w:World)(ts:List LT)(pts:List CZ):Prop where
 len:ts.length=pts.length
 all:∀(i:Nat) (t:LT) (p:CZ),ts[i]? =some t→pts[i]? =some p→t.name=p.name∧t.keep=p.keep∧t.junk.len=p.junk.length∧As w t.junk.a p.junk
 size:∀p∈pts,p.name.size≤4294967295∧p.junk.length≤4294967295∧-9223372036854775808≤p.keep∧p.keep≤9223372036854775807
theorem Ig.ext {w w':World}{ts:List LT}{pts:List CZ}(h:Ig w ts pts)(k:Aq w w'):Ig w' ts pts:=
 ⟨h.len,fun i t p h1 h2=>have h3:=h.all i t p h1 h2;⟨h3.1,h3.2.1,h3.2.2.1,h3.2.2.2.ext k⟩,h.size⟩
structure EW where
 name:ByteArray
 a:Option Addr
 cap:Nat
 bytes:List UInt8
def Wt (x:EW):ByteArray×Value:=(x.name,.slice x.a x.bytes.length x.cap)
def lents (l:List EW):List (ByteArray×Value):=l.map Wt
def EW.p (x:EW):ByteArray×List UInt8:=(x.name,x.bytes)
def Oo (l:List EW):Nat→Prop:=fun q=>∃x∈l,own x.a q
structure Ck (w:World)(l:List EW):Prop where
 all:∀x∈l,Af w 5 x.a x.cap x.bytes
 apart:l.Pairwise (fun x y=>∀q,own x.a q→¬own y.a q)
section
variable {w w':World}{S:Nat→Prop}{x:EW}{l l1 l2:List EW}{pl:List PF}{pts:List CZ}
theorem Ck.own_lt (h:Ck w l):∀q,Oo l q→q<w.heap.size:=fun q ⟨x,hx,hq⟩=>(h.all x hx).own_lt q hq
theorem Ck.keepO (h:Ck w l)(k:Ah S w w')(hn:∀q,Oo l q→¬S q):Ck w' l:=⟨fun x hx=>(h.all x hx).keepO k (fun q hq=>hn q ⟨x,hx,hq⟩),h.apart⟩
theorem Ck.ext (h:Ck w l)(k:Aq w w'):Ck w' l:=h.keepO k fun _ _=>id
theorem Ck.nil (w:World):Ck w []:=⟨fun _ h=>absurd h Zs,List.Pairwise.nil⟩
theorem Ck.perm (h:Ck w l){l':List EW}(p:l.Perm l'):Ck w l':=
 ⟨fun f hf=>h.all f (p.mem_iff.2 hf),(p.pairwise_iff (fun{a b} hab q h1 h2=>hab q h2 h1)).1 h.apart⟩
theorem Ck.snoc (h:Ck w l)(hx:Af w 5 x.a x.cap x.bytes)(hn:∀q,Oo l q→¬own x.a q):Ck w (l++[x]):=by
 refine Ck.perm (l:=x::l) ⟨fun y hy=> ?_,List.pairwise_cons.2 ⟨fun y hy q h1 h2=>hn q ⟨y,hy,h2⟩ h1,h.apart⟩⟩ (List.perm_append_singleton _ _).symm
 rcases List.mem_cons.1 hy with rfl|hy
 ·exact hx
 ·exact h.all y hy
theorem Ck.openE (h:Ck w l)(e:l=l1++x::l2):Af w 5 x.a x.cap x.bytes∧Ck w (l1++l2)∧∀q,Oo (l1++l2) q→¬own x.a q:=by
 have h':=h.perm (e▸List.perm_middle:l.Perm (x::(l1++l2)))
 obtain⟨h1,h2⟩:=List.pairwise_cons.1 h'.apart
 exact⟨h'.all x Zs,⟨fun y hy=>h'.all y (List.mem_cons_of_mem _ hy),h2⟩,fun q ⟨y,hy,hq⟩ hx=>h1 y hy q hx hq⟩
def Uf (pl:List PF)(t:CZ):ByteArray×List UInt8:=(t.name,match Cs pl t.name with|some f=>Oh f t|none=>[])
def Oq (pl:List PF)(ts:List CZ):List (ByteArray×List UInt8):=ts.map (Uf pl)
def IS (ts:List CZ)(i:Nat):List ByteArray:=((ts.take i).map (·.name)).reverse
theorem J5 {α:Type}{l:List α}{i:Nat}{x:α}(h:l[i]? =some x):l.drop i=x::l.drop (i+1):=by
 obtain⟨hi,rfl⟩:=List.getElem?_eq_some_iff.1 h;exact List.drop_eq_getElem_cons hi
theorem J6 {α:Type}{l:List α}{i:Nat}{x:α}(h:l[i]? =some x):l.take (i+1)=l.take i++[x]:=by
 obtain⟨hi,rfl⟩:=List.getElem?_eq_some_iff.1 h;exact List.take_succ_eq_append_getElem hi
theorem Pl {i:Nat}{t:CZ}(h:pts[i]? =some t):IS pts (i+1)=t.name::IS pts i:=by rw[IS,J6 h,IS];simp
structure Dy (pl:List PF)(pts:List CZ)(i:Nat)(ls:List EW):Prop where
 err:IM pl pts []=IM pl (pts.drop i) (IS pts i)
 left:ls.map EW.p=Oq pl (pts.take i)
 nodup:(ls.map (·.name)).Nodup
theorem Dy.zero :Dy pl pts 0 []:=⟨rfl,rfl,by simp⟩
theorem Dy.names {i:Nat}(h:Dy pl pts i l):l.map (·.name)=(pts.take i).map (·.name):=by
 have:=congrArg (List.map (·.1)) h.left
 rw[Oq,List.map_map,List.map_map]at this
 exact this
theorem Dy.seen {i:Nat}(h:Dy pl pts i l){n:ByteArray}:(IS pts i).any (fun s=>decide (s=n))=true↔∃x∈l,x.name=n:=by
 rw[IS,List.any_reverse,←h.names,List.any_eq_true]
 constructor
 ·rintro⟨y,hy,e⟩
  obtain⟨x,hx,rfl⟩:=List.mem_map.1 hy
  exact⟨x,hx,by simpa using e⟩
 ·rintro⟨x,hx,e⟩
  exact⟨x.name,List.mem_map.2 ⟨x,hx,rfl⟩,by simpa using e⟩
theorem Dy.no {i:Nat}{t:CZ}(h:Dy pl pts i l)(ht:pts[i]? =some t)(hm:Cr t.name=true)(hl:Cs pl t.name=none):IM pl pts []=20:=by
 rw[h.err,J5 ht,IM,if_pos hm,hl]
theorem Dy.step {i:Nat}{t:CZ}{f:PF}(h:Dy pl pts i l)(ht:pts[i]? =some t)(hm:Cr t.name=true)(hl:Cs pl t.name=some f)(hno:∀x∈l,x.name≠t.name)(hk:QH f t=true)(a:Option Addr)(c:Nat):
  Dy pl pts (i+1) (l++[⟨t.name,a,c,Oh f t⟩]):=by
 refine⟨?_,?_,?_⟩
 ·rw[h.err,J5 ht,IM,if_pos hm,hl]
  simp only
  rw[if_neg,Pl ht]
  rintro(hc|hc)
  ·obtain⟨x,hx,e⟩:=h.seen.1 hc;exact hno x hx e
  ·rw[hk]at hc;cases hc
 ·rw[J6 ht,Oq,List.map_append,List.map_append,h.left,Oq]
  simp only[List.map_cons,List.map_nil,Uf,hl,EW.p]
 ·rw[List.map_append,List.nodup_append]
  refine⟨h.nodup,by simp,?_⟩
  intro y hy z hz
  obtain⟨x,hx,rfl⟩:=List.mem_map.1 hy
  simp only[List.map_cons,List.map_nil,List.mem_singleton]at hz
  subst hz;exact hno x hx
end
end Go.Proofs.YtjkaicjmfgekjaaGreatDoor
namespace Go.Proofs.YtjkaicjmfgekjaaGreatDoor
open Go.Proofs.Tryz
attribute [local irreducible] RD RS Av RL RA RT CJ Aj
section
variable {w w':World}{f x:Am}{fs gs rs l1 l2:List Am}{d m:Nat}{room:Int}{n:ByteArray}{pl:List PF}{pts:List CZ}{ls ks:List EW}
def crM (pts:List CZ)(rs:List Am)(x:Am):PF:=if rs.any (fun r=>decide (r.name=x.name))then x.p else QI pts x.p
end
end Go.Proofs.YtjkaicjmfgekjaaGreatDoor
namespace Go.Proofs.YtjkaicjmfgekjaaGreatDoor
open Go.Proofs.Tryz
attribute [local irreducible] RD RS Av RL RA RT CJ Aj
end Go.Proofs.YtjkaicjmfgekjaaGreatDoor
namespace Go.Proofs.YtjkaicjmfgekjaaGreatDoor
open Go.Proofs.Tryz
attribute [local irreducible] RD RS Av RL RA RT CJ Aj
theorem Bq {P:Program}{f:FuncId}{args:Array Value}{w:World}{Φ Ψ:Value→World→Prop}(h:Calls P f args w (AS Φ))(hh:∀v w',Φ v w'→Ψ v w'):Calls P f args w (AS Ψ):=
 h.mono fun _ _ ⟨v,e,hv⟩=>⟨v,e,hh v _ hv⟩
def EX (d:Nat)(F:Nat→Prop)(room:Int)(w:World)(E:Int)(L:List PF):Value→World→Prop:=fun v w'=>∃F',v= .int .i64 E∧AF w' d F' room L∧A8 w F F'∧Ah F w w'
theorem LU {w w':World}{d m:Nat}{room:Int}{fs:List Am}{E E':Int}{L L':List PF}{v:Value}
  (h:∃fs',v= .int .i64 E∧Bd w' d m room fs'∧(fs'.map Am.p).Perm L∧(∀q,Be d m fs' q→q<w.heap.size→Be d m fs q)∧Ah (Be d m fs) w w') (e:E=E') (p:L.Perm L'):EX d (Be d m fs) room w E' L' v w':=by
 obtain⟨fs',rfl,h1,h2,h3,h4⟩:=h
 subst e
 exact⟨_,rfl,⟨m,fs',rfl,h2.trans p,h1⟩,J0 h3,h4⟩
theorem IT {w w':World}{d m:Nat}{room:Int}{fs:List Am}{E E':Int}{L L':List PF}{v:Value}
  (h:∃fs',v= .int .i64 E∧Bd w' d m room fs'∧fs'.map Am.p=L∧(∀q,Be d m fs' q→q<w.heap.size→Be d m fs q)∧Ah (Be d m fs) w w') (e:E=E') (p:L.Perm L'):EX d (Be d m fs) room w E' L' v w':=by
 obtain⟨fs',h0,h1,h2,h3⟩:=h
 exact LU ⟨fs',h0,h1,h2▸List.Perm.refl _,h3⟩ e p
theorem Fl {pl pl':List PF}(p:pl.Perm pl')(n:ByteArray):Cb pl n=Cb pl' n:=by rw[Cb,Cb,EV p]
theorem Pm {pl pl':List PF}(p:pl.Perm pl')(n to:ByteArray):Ez pl n to=Ez pl' n to:=by rw[Ez,Ez,EV p]
def AL (pl:List PF)(n:ByteArray):List UInt8:=((Cs pl n).map (·.bytes)).getD []
def EY (pl:List PF)(n:ByteArray):Nat:=((Cs pl n).map (·.bytes.length)).getD 0
def QU (pl:List PF)(n:ByteArray):Nat:=((Cs pl n).map (·.synced)).getD 0
section
variable {w :World}{d:Nat}{F:Nat→Prop}{room:Int}{pl:List PF}
theorem QV (h:AF w d F room pl)(name:ByteArray)(a:Option Addr)(b:List UInt8)(c:Nat)(hs:name.size≤4294967295)(hsl:As w a b)(hdis:∀x,a=some x→b≠ []→¬F x.block)(hbl:b.length≤4294967295):
  Calls prog 95 #[jp d,.string name,.slice a b.length c] w (AS (EX d F room w (CN room pl name b) (CH room pl name b))):=by
 obtain⟨m,fs,rfl,hp,hO⟩:=h
 exact Bq (append_ d m room fs name a b c w hO hs hsl hdis hbl) fun v w' h=>IT h (JV hp name b) (Pf hp name b)
theorem Ih (h:AF w d F room pl)(name:ByteArray)(a:Option Addr)(b:List UInt8)(c:Nat)(hs:name.size≤4294967295)(hsl:As w a b)(hdis:∀x,a=some x→¬F x.block)(hbl:b.length≤4294967295):
  Calls prog 95 #[jp d,.string name,.slice a b.length c] w (AS (EX d F room w (CN room pl name b) (CH room pl name b))):=
 QV h name a b c hs hsl (fun x hx _=>hdis x hx) hbl
theorem LV (h:AF w d F room pl)(name:ByteArray)(hs:name.size≤4294967295):Calls prog 93 #[jp d,.string name] w (AS (EX d F room w (Cb pl name) (Cj pl name))):=by
 obtain⟨m,fs,rfl,hp,hO⟩:=h
 exact Bq (VD d m room fs name w hO hs) fun v w' h=>IT h (Fl hp name) (JW hp name _)
theorem SW (h:AF w d F room pl)(name to:ByteArray)(hs:name.size≤4294967295)(hs2:to.size≤4294967295):Calls prog 189 #[jp d,.string name,.string to] w (AS (EX d F room w (Ez pl name to) (Gi pl name to))):=by
 obtain⟨m,fs,rfl,hp,hO⟩:=h
 exact Bq (SV d m room fs name to w hO hs hs2) fun v w' h=>LU h (Pm hp name to) (Pg hO.ok.nodup hp name to)
theorem Ii (h:AF w d F room pl)(name:ByteArray)(hs:name.size≤4294967295):Calls prog 112 #[jp d,.string name] w (AS (EX d F room w (Cb pl name) (A3 pl name))):=by
 obtain⟨m,fs,rfl,hp,hO⟩:=h
 exact Bq (SU d m room fs name w hO hs) fun v w' h=>IT h (Fl hp name) (Hq hp name)
theorem VE (h:AF w d F room pl)(name:ByteArray)(hs:name.size≤4294967295):Calls prog 176 #[jp d,.string name] w
  (AS fun v w'=>∃a' c',v= .tuple #[.slice a' (AL pl name).length c',.int .i64 (Cb pl name)]∧Af w' 5 a' c' (AL pl name)∧(∀b,own a' b→w.heap.size≤b)∧Aq w w'):=by
 obtain⟨m,fs,rfl,hp,hO⟩:=h
 refine Bq (VB d m room fs name w hO hs) fun v w' h=> ?_
 obtain⟨a',c',bs,rfl,h1,h2,h3,h4⟩:=h
 have e:bs=AL pl name:=by rw[h3,AL,Gy hO.ok.nodup hp]
 subst e
 exact⟨a',c',by rw[Fl hp],h1,h2,h4⟩
theorem Ug (h:AF w d F room pl)(name:ByteArray)(hs:name.size≤4294967295):Calls prog 58 #[jp d,.string name] w
  (AS fun v w'=>v= .tuple #[.int .i64 ((EY pl name:Nat):Int),.int .i64 ((QU pl name:Nat):Int),.int .i64 (Cb pl name)]∧Aq w w'):=by
 obtain⟨m,fs,rfl,hp,hO⟩:=h
 refine Bq (VC d m room fs name w hO hs) fun v w' h=> ?_
 obtain⟨rfl,h⟩:=h
 exact⟨by rw[Fl hp,Gy hO.ok.nodup hp];rfl,h⟩
end
theorem Wu (room:Int)(w:World):Calls prog 25 #[.int .i64 room] w (AS fun v w'=>(¬(0≤room∧room≤16777216)∧v= .tuple #[.pointer none,.int .i64 1]∧Aq w w')∨
  ((0≤room∧room≤16777216)∧∃d F,v= .tuple #[jp d,.int .i64 0]∧AF w' d F room []∧(∀q,F q→w.heap.size≤q)∧Aq w w')):=by
 refine Bq (Ws room w) fun v w' h=> ?_
 rcases h with h|⟨h1,d,m,h2,h3,h4,h5⟩
 ·exact .inl h
 ·exact .inr ⟨h1,d,_,h2,⟨m,[],rfl,List.Perm.refl _,h3⟩,h4,h5⟩
theorem FL {d:Nat}{F:Nat→Prop}{room:Int}{w:World}{E E':Int}{L L':List PF}{f:FuncId}{args:Array Value}(h:Calls prog f args w (AS (EX d F room w E L)))(e:E=E')(p:L=L'):Calls prog f args w (AS (EX d F room w E' L')):=by subst e;subst p;exact h
structure VF where
 op:Int
 name:ByteArray
 other:ByteArray
 bytes:List UInt8
 tears:List CZ
def UL (n:Int):Int:=(IntKind.u64.wrap n).tmod 8
def VG (room:Int)(pl:List PF)(p:VF):List PF:=
 if UL p.op=0∨UL p.op=1∨UL p.op=2 then CH room pl p.name p.bytes else if UL p.op=3 then Cj pl p.name else if UL p.op=4 then Gi pl p.name p.other else if UL p.op=5 then A3 pl p.name else if UL p.op=6 then UH pl p.tears else[]
structure Vt where
 op:Int
 name:ByteArray
 other:ByteArray
 bytes:SH
 tears:SH
instance : Enc Vt:=Enc.struct (fun t=>[.int .i64 t.op,.string t.name,.string t.other,.slice t.bytes.a t.bytes.len t.bytes.cap,.slice t.tears.a t.tears.len t.tears.cap]) 5 (fun _=>rfl) (fun _ v hv=>by simp at hv;rcases hv with rfl|rfl|rfl|rfl|rfl<;>rfl) Zd
structure SX (w:World)(o:Vt)(b:List UInt8)(pts:List CZ):Prop where
 bl:o.bytes.len=b.length
 bs:As w o.bytes.a b
 ts:∃ts:List LT,o.tears.len=ts.length∧As w o.tears.a ts∧Ig w ts pts
 size:o.name.size≤4294967295∧o.other.size≤4294967295∧b.length≤4294967295∧pts.length≤4294967295
theorem SX.ext {w w':World}{o:Vt}{b:List UInt8}{pts:List CZ}(h:SX w o b pts)(k:Aq w w'):SX w' o b pts:=
 ⟨h.bl,h.bs.ext k,by obtain⟨ts,h1,h2,h3⟩:=h.ts;exact⟨ts,h1,h2.ext k,h3.ext k⟩,h.size⟩
structure QW (w:World)(l:List Vt)(ps:List VF):Prop where
 len:l.length=ps.length
 all:∀(i:Nat) (o:Vt) (p:VF),l[i]? =some o→ps[i]? =some p→∃b pts,p=⟨o.op,o.name,o.other,b,pts⟩∧SX w o b pts
theorem QW.ext {w w':World}{l:List Vt}{ps:List VF}(h:QW w l ps)(k:Aq w w'):QW w' l ps:=
 ⟨h.len,fun i o p h1 h2=>by obtain⟨b,pts,e,h3⟩:=h.all i o p h1 h2;exact⟨b,pts,e,h3.ext k⟩⟩
def runL (room:Int)(pl:List PF)(ps:List VF):List PF:=ps.foldl (VG room) pl
end Go.Proofs.YtjkaicjmfgekjaaGreatDoor
