/-
  Ya, Yb
-/
import Derived.Shelf.Strconv.Itoa3
import Derived.Shelf.Strconv.AtoiAll
import Derived.Lib.SmallJoins
import Derived.Sort.OwnSortedInts
import Derived.Shelf.SortM.Plain
import Derived.Shelf.SortM.SortNone
import Derived.Ground.SlgmProg
import Derived.Test.YtjkaicjmfgekjaaGreatDoorRows
import Derived.Test.YtjkaicjmfgekjaaGreatDoorPkDk
import Derived.Test.YtjkaicjmfgekjaaGreatDoorPkXa
import Derived.Test.YtjkaicjmfgekjaaGreatDoorPkI
set_option linter.all false
set_option maxRecDepth 100000
set_option maxHeartbeats 4000000
namespace Go.Proofs.YtjkaicjmfgekjaaGreatDoor
open Go.Proofs.Tryz
attribute [local irreducible] RD RS Av RL RA RT CJ Aj
attribute [local irreducible] crcN B6 B3 E1 BV leL Cm
section
open Go.Shelf
def itoaL_ren :Go.Shelf.Ren:=⟨fun|171=>155|243=>215|246=>260|283=>304|284=>305|285=>306|286=>307|129=>255|317=>339|318=>340|319=>341|320=>342|337=>354|338=>355|n=>n,fun|3=>3|9=>9|2=>2|4=>4|171=>341|0=>0|53=>74|37=>98|5=>5|173=>343|212=>372|51=>84|20=>20|213=>373|46=>106|232=>387|233=>388|n=>n,fun|17=>4|18=>5|19=>6|n=>n⟩
theorem itoaL :Go.Proofs.LaysM.n171 prog itoaL_ren:={
 mixed:=by kernel_rfl
 f129:=func255.trans (congrArg some Zk)
 f171:=func155.trans (congrArg some Zk)
 f243:=func215.trans (congrArg some Zk)
 f246:=func260.trans (congrArg some Zk)
 f283:=func304.trans (congrArg some Zk)
 f284:=func305.trans (congrArg some Zk)
 f285:=func306.trans (congrArg some Zk)
 f286:=func307.trans (congrArg some Zk)
 f317:=func339.trans (congrArg some Zk)
 f318:=func340.trans (congrArg some Zk)
 f319:=func341.trans (congrArg some Zk)
 f320:=func342.trans (congrArg some Zk)
 f337:=func354.trans (congrArg some Zk)
 f338:=func355.trans (congrArg some Zk)
 t0:=underlying0
 a0:=Tryz.isAgg0
 z0:=Tryz.sizeOf0
 v0:=Tryz.zeroValue0
 t2:=underlying2
 a2:=Tryz.isAgg2
 z2:=Tryz.sizeOf2
 v2:=Tryz.zeroValue2
 t3:=underlying3
 a3:=Tryz.isAgg3
 z3:=Tryz.sizeOf3
 v3:=Tryz.zeroValue3
 t4:=underlying4
 a4:=Tryz.isAgg4
 z4:=Tryz.sizeOf4
 v4:=Tryz.zeroValue4
 t5:=underlying5
 a5:=Tryz.isAgg5
 z5:=Tryz.sizeOf5
 v5:=Tryz.zeroValue5
 t9:=underlying9
 a9:=Tryz.isAgg9
 z9:=Tryz.sizeOf9
 v9:=Tryz.zeroValue9
 t20:=underlying20
 a20:=Tryz.isAgg20
 z20:=Tryz.sizeOf20
 v20:=Tryz.zeroValue20
 t37:=underlying98
 a37:=Tryz.isAgg98
 z37:=Tryz.sizeOf98
 v37:=Tryz.zeroValue98
 t46:=underlying106
 a46:=Tryz.isAgg106
 z46:=Tryz.sizeOf106
 v46:=Tryz.zeroValue106
 t51:=underlying84
 a51:=Tryz.isAgg84
 z51:=Tryz.sizeOf84
 v51:=Tryz.zeroValue84
 t53:=underlying74
 a53:=Tryz.isAgg74
 z53:=Tryz.sizeOf74
 v53:=Tryz.zeroValue74
 t171:=underlying341
 a171:=Tryz.isAgg341
 z171:=Tryz.sizeOf341
 v171:=Tryz.zeroValue341
 t173:=underlying343
 a173:=Tryz.isAgg343
 z173:=Tryz.sizeOf343
 v173:=Tryz.zeroValue343
 t212:=underlying372
 a212:=Tryz.isAgg372
 z212:=Tryz.sizeOf372
 v212:=Tryz.zeroValue372
 t213:=underlying373
 a213:=Tryz.isAgg373
 z213:=Tryz.sizeOf373
 t232:=underlying387
 a232:=Tryz.isAgg387
 z232:=Tryz.sizeOf387
 v232:=Tryz.zeroValue387
 t233:=underlying388
 a233:=Tryz.isAgg388
 z233:=Tryz.sizeOf388
 v233:=Tryz.zeroValue388
 g17:=by kernel_rfl
 g18:=by kernel_rfl
 g19:=by kernel_rfl
 i0:=by kernel_rfl
 i2:=by kernel_rfl
 i3:=by kernel_rfl
 i4:=by kernel_rfl
 i5:=by kernel_rfl
 i9:=by kernel_rfl
 i20:=by kernel_rfl
 i37:=by kernel_rfl
 i46:=by kernel_rfl
 i51:=by kernel_rfl
 i53:=by kernel_rfl
 i171:=by kernel_rfl
 i173:=by kernel_rfl
 i212:=by kernel_rfl
 i232:=by kernel_rfl
 i233:=by kernel_rfl
 m17:=by kernel_rfl
 m18:=by kernel_rfl
 m19:=by kernel_rfl}
def atoiL_ren :Go.Shelf.Ren:=⟨fun|172=>213|244=>257|245=>258|247=>290|279=>291|280=>292|281=>293|282=>294|287=>332|316=>333|171=>155|205=>334|321=>351|322=>352|243=>215|246=>260|283=>304|284=>305|285=>306|286=>307|129=>255|317=>339|318=>340|319=>341|320=>342|337=>354|338=>355|n=>n,fun|9=>9|3=>3|75=>272|76=>273|4=>4|5=>5|167=>330|37=>98|0=>0|85=>331|2=>2|168=>333|53=>74|175=>363|46=>106|210=>367|127=>380|145=>383|143=>381|21=>21|171=>341|173=>343|212=>372|51=>84|20=>20|213=>373|232=>387|233=>388|80=>389|n=>n,fun|15=>2|16=>3|17=>4|18=>5|19=>6|n=>n⟩
theorem atoiL :Go.Proofs.LaysC.n172 prog atoiL_ren:={
 mixed:=by kernel_rfl
 f129:=func255.trans (congrArg some Zk)
 f171:=func155.trans (congrArg some Zk)
 f172:=func213.trans (congrArg some Zk)
 f205:=func334.trans (congrArg some Zk)
 f243:=func215.trans (congrArg some Zk)
 f244:=func257.trans (congrArg some Zk)
 f245:=func258.trans (congrArg some Zk)
 f246:=func260.trans (congrArg some Zk)
 f247:=func290.trans (congrArg some Zk)
 f279:=func291.trans (congrArg some Zk)
 f280:=func292.trans (congrArg some Zk)
 f281:=func293.trans (congrArg some Zk)
 f282:=func294.trans (congrArg some Zk)
 f283:=func304.trans (congrArg some Zk)
 f284:=func305.trans (congrArg some Zk)
 f285:=func306.trans (congrArg some Zk)
 f286:=func307.trans (congrArg some Zk)
 f287:=func332.trans (congrArg some Zk)
 f316:=func333.trans (congrArg some Zk)
 f317:=func339.trans (congrArg some Zk)
 f318:=func340.trans (congrArg some Zk)
 f319:=func341.trans (congrArg some Zk)
 f320:=func342.trans (congrArg some Zk)
 f321:=func351.trans (congrArg some Zk)
 f322:=func352.trans (congrArg some Zk)
 f337:=func354.trans (congrArg some Zk)
 f338:=func355.trans (congrArg some Zk)
 t0:=underlying0
 a0:=Tryz.isAgg0
 z0:=Tryz.sizeOf0
 v0:=Tryz.zeroValue0
 t2:=underlying2
 a2:=Tryz.isAgg2
 z2:=Tryz.sizeOf2
 v2:=Tryz.zeroValue2
 t3:=underlying3
 a3:=Tryz.isAgg3
 z3:=Tryz.sizeOf3
 v3:=Tryz.zeroValue3
 t4:=underlying4
 a4:=Tryz.isAgg4
 z4:=Tryz.sizeOf4
 v4:=Tryz.zeroValue4
 t5:=underlying5
 a5:=Tryz.isAgg5
 z5:=Tryz.sizeOf5
 v5:=Tryz.zeroValue5
 t9:=underlying9
 a9:=Tryz.isAgg9
 z9:=Tryz.sizeOf9
 v9:=Tryz.zeroValue9
 t20:=underlying20
 a20:=Tryz.isAgg20
 z20:=Tryz.sizeOf20
 v20:=Tryz.zeroValue20
 t21:=underlying21
 a21:=Tryz.isAgg21
 z21:=Tryz.sizeOf21
 v21:=Tryz.zeroValue21
 t37:=underlying98
 a37:=Tryz.isAgg98
 z37:=Tryz.sizeOf98
 v37:=Tryz.zeroValue98
 t46:=underlying106
 a46:=Tryz.isAgg106
 z46:=Tryz.sizeOf106
 v46:=Tryz.zeroValue106
 t51:=underlying84
 a51:=Tryz.isAgg84
 z51:=Tryz.sizeOf84
 v51:=Tryz.zeroValue84
 t53:=underlying74
 a53:=Tryz.isAgg74
 z53:=Tryz.sizeOf74
 v53:=Tryz.zeroValue74
 t75:=underlying272
 a75:=Tryz.isAgg272
 z75:=Tryz.sizeOf272
 v75:=Tryz.zeroValue272
 t76:=underlying273
 a76:=Tryz.isAgg273
 z76:=Tryz.sizeOf273
 v76:=Tryz.zeroValue273
 t85:=underlying331
 a85:=Tryz.isAgg331
 z85:=Tryz.sizeOf331
 v85:=Tryz.zeroValue331
 t127:=underlying380
 a127:=Tryz.isAgg380
 z127:=Tryz.sizeOf380
 v127:=Tryz.zeroValue380
 t143:=underlying381
 a143:=Tryz.isAgg381
 z143:=Tryz.sizeOf381
 v143:=Tryz.zeroValue381
 t145:=underlying383
 a145:=Tryz.isAgg383
 z145:=Tryz.sizeOf383
 v145:=Tryz.zeroValue383
 t167:=underlying330
 a167:=Tryz.isAgg330
 z167:=Tryz.sizeOf330
 v167:=Tryz.zeroValue330
 t168:=underlying333
 a168:=Tryz.isAgg333
 z168:=Tryz.sizeOf333
 v168:=Tryz.zeroValue333
 t171:=underlying341
 a171:=Tryz.isAgg341
 z171:=Tryz.sizeOf341
 v171:=Tryz.zeroValue341
 t173:=underlying343
 a173:=Tryz.isAgg343
 z173:=Tryz.sizeOf343
 v173:=Tryz.zeroValue343
 t175:=underlying363
 a175:=Tryz.isAgg363
 z175:=Tryz.sizeOf363
 v175:=Tryz.zeroValue363
 t210:=underlying367
 a210:=Tryz.isAgg367
 z210:=Tryz.sizeOf367
 v210:=Tryz.zeroValue367
 t212:=underlying372
 a212:=Tryz.isAgg372
 z212:=Tryz.sizeOf372
 v212:=Tryz.zeroValue372
 t213:=underlying373
 a213:=Tryz.isAgg373
 z213:=Tryz.sizeOf373
 t232:=underlying387
 a232:=Tryz.isAgg387
 z232:=Tryz.sizeOf387
 v232:=Tryz.zeroValue387
 t233:=underlying388
 a233:=Tryz.isAgg388
 z233:=Tryz.sizeOf388
 v233:=Tryz.zeroValue388
 g15:=by kernel_rfl
 g16:=by kernel_rfl
 g17:=by kernel_rfl
 g18:=by kernel_rfl
 g19:=by kernel_rfl
 t80:=underlying389
 a80:=Tryz.isAgg389
 z80:=Tryz.sizeOf389
 v80:=Tryz.zeroValue389
 i0:=by kernel_rfl
 i2:=by kernel_rfl
 i3:=by kernel_rfl
 i4:=by kernel_rfl
 i5:=by kernel_rfl
 i9:=by kernel_rfl
 i20:=by kernel_rfl
 i21:=by kernel_rfl
 i37:=by kernel_rfl
 i46:=by kernel_rfl
 i51:=by kernel_rfl
 i53:=by kernel_rfl
 i75:=by kernel_rfl
 i76:=by kernel_rfl
 i80:=by kernel_rfl
 i85:=by kernel_rfl
 i127:=by kernel_rfl
 i143:=by kernel_rfl
 i145:=by kernel_rfl
 i167:=by kernel_rfl
 i168:=by kernel_rfl
 i171:=by kernel_rfl
 i173:=by kernel_rfl
 i175:=by kernel_rfl
 i210:=by kernel_rfl
 i212:=by kernel_rfl
 i232:=by kernel_rfl
 i233:=by kernel_rfl
 m15:=by kernel_rfl
 m16:=by kernel_rfl
 m17:=by kernel_rfl
 m18:=by kernel_rfl
 m19:=by kernel_rfl
 c0:=by kernel_rfl
 c2:=by kernel_rfl
 c3:=by kernel_rfl
 c4:=by kernel_rfl
 c5:=by kernel_rfl
 c9:=by kernel_rfl
 c20:=by kernel_rfl
 c21:=by kernel_rfl
 c37:=by kernel_rfl
 c46:=by kernel_rfl
 c51:=by kernel_rfl
 c53:=by kernel_rfl
 c75:=by kernel_rfl
 c76:=by kernel_rfl
 c80:=by kernel_rfl
 c85:=by kernel_rfl
 c127:=by kernel_rfl
 c143:=by kernel_rfl
 c145:=by kernel_rfl
 c167:=by kernel_rfl
 c168:=by kernel_rfl
 c171:=by kernel_rfl
 c173:=by kernel_rfl
 c175:=by kernel_rfl
 c210:=by kernel_rfl
 c212:=by kernel_rfl
 c213:=by kernel_rfl
 c232:=by kernel_rfl
 c233:=by kernel_rfl}
def sortI_ren :Go.Shelf.Ren:=⟨fun|5=>214|8=>210|7=>259|19=>254|20=>255|10=>295|11=>296|12=>297|13=>298|14=>299|15=>300|16=>301|17=>302|18=>303|30=>335|31=>285|32=>286|33=>336|34=>337|35=>338|40=>353|n=>n,fun|23=>185|25=>3|3=>3|32=>106|22=>185|0=>0|44=>84|46=>74|4=>4|36=>299|35=>298|41=>228|5=>5|9=>9|53=>325|57=>318|63=>360|64=>361|n=>n,fun|n=>n⟩
theorem sortI :Go.Proofs.SlLaysM.n5 prog sortI_ren:={
 mixed:=by kernel_rfl
 f5:=⟨Tryz.f214.name,by decide,func214.trans (congrArg some Zk)⟩
 f7:=⟨Tryz.f259.name,by decide,func259.trans (congrArg some Zk)⟩
 f8:=func210.trans (congrArg some Zk)
 f10:=⟨Tryz.f295.name,by decide,func295.trans (congrArg some Zk)⟩
 f11:=⟨Tryz.f296.name,by decide,func296.trans (congrArg some Zk)⟩
 f12:=⟨Tryz.f297.name,by decide,func297.trans (congrArg some Zk)⟩
 f13:=⟨Tryz.f298.name,by decide,func298.trans (congrArg some Zk)⟩
 f14:=⟨Tryz.f299.name,by decide,func299.trans (congrArg some Zk)⟩
 f15:=⟨Tryz.f300.name,by decide,func300.trans (congrArg some Zk)⟩
 f16:=⟨Tryz.f301.name,by decide,func301.trans (congrArg some Zk)⟩
 f17:=⟨Tryz.f302.name,by decide,func302.trans (congrArg some Zk)⟩
 f18:=⟨Tryz.f303.name,by decide,func303.trans (congrArg some Zk)⟩
 f19:=func254.trans (congrArg some Zk)
 f20:=func255.trans (congrArg some Zk)
 f30:=⟨Tryz.f335.name,by decide,func335.trans (congrArg some Zk)⟩
 f31:=func285.trans (congrArg some Zk)
 f32:=func286.trans (congrArg some Zk)
 f33:=⟨Tryz.f336.name,by decide,func336.trans (congrArg some Zk)⟩
 f34:=⟨Tryz.f337.name,by decide,func337.trans (congrArg some Zk)⟩
 f35:=⟨Tryz.f338.name,by decide,func338.trans (congrArg some Zk)⟩
 f40:=⟨Tryz.f353.name,by decide,func353.trans (congrArg some Zk)⟩
 t0:=underlying0
 a0:=Tryz.isAgg0
 z0:=Tryz.sizeOf0
 v0:=Tryz.zeroValue0
 t3:=underlying3
 a3:=Tryz.isAgg3
 z3:=Tryz.sizeOf3
 v3:=Tryz.zeroValue3
 t4:=underlying4
 a4:=Tryz.isAgg4
 z4:=Tryz.sizeOf4
 v4:=Tryz.zeroValue4
 t5:=underlying5
 a5:=Tryz.isAgg5
 z5:=Tryz.sizeOf5
 v5:=Tryz.zeroValue5
 t9:=underlying9
 a9:=Tryz.isAgg9
 z9:=Tryz.sizeOf9
 v9:=Tryz.zeroValue9
 t22:=underlying185
 a22:=Tryz.isAgg185
 z22:=Tryz.sizeOf185
 v22:=Tryz.zeroValue185
 t23:=underlying185
 a23:=Tryz.isAgg185
 z23:=Tryz.sizeOf185
 v23:=Tryz.zeroValue185
 t25:=underlying3
 a25:=Tryz.isAgg3
 z25:=Tryz.sizeOf3
 v25:=Tryz.zeroValue3
 t32:=underlying106
 a32:=Tryz.isAgg106
 z32:=Tryz.sizeOf106
 v32:=Tryz.zeroValue106
 t35:=underlying298
 a35:=Tryz.isAgg298
 z35:=Tryz.sizeOf298
 v35:=Tryz.zeroValue298
 t36:=underlying299
 a36:=Tryz.isAgg299
 z36:=Tryz.sizeOf299
 v36:=Tryz.zeroValue299
 t41:=underlying228
 a41:=Tryz.isAgg228
 z41:=Tryz.sizeOf228
 v41:=Tryz.zeroValue228
 t44:=underlying84
 a44:=Tryz.isAgg84
 z44:=Tryz.sizeOf84
 v44:=Tryz.zeroValue84
 t46:=underlying74
 a46:=Tryz.isAgg74
 z46:=Tryz.sizeOf74
 v46:=Tryz.zeroValue74
 t53:=underlying325
 a53:=Tryz.isAgg325
 z53:=Tryz.sizeOf325
 v53:=Tryz.zeroValue325
 t57:=underlying318
 a57:=Tryz.isAgg318
 z57:=Tryz.sizeOf318
 v57:=Tryz.zeroValue318
 t63:=underlying360
 a63:=Tryz.isAgg360
 z63:=Tryz.sizeOf360
 v63:=Tryz.zeroValue360
 t64:=underlying361
 a64:=Tryz.isAgg361
 z64:=Tryz.sizeOf361
 v64:=Tryz.zeroValue361}
end
section
open Go.RowKit Go.Sort Go.Shelf
theorem gTab :prog.globalNamed "internal/strconv.uint64pow10" =some 4:=by kernel_rfl
def Q5 (w:World):Prop:=Lib.TabIs prog w "internal/strconv.uint64pow10" .u64 Lib.pow10Tab
structure AZ (w:World):Prop where
 tab:Q5 w
 e1:∃t p,w.cell? ⟨2,0,none⟩=some (.iface t p)
 e2:∃t p,w.cell? ⟨3,0,none⟩=some (.iface t p)
 size:7≤w.heap.size
theorem AZ.keep {S:Nat→Prop}{w w':World}(h:AZ w)(k:Ah S w w')(hs:∀q,S q→7≤q):AZ w':=by
 have e:∀q,q<7→w'.heap[q]? =w.heap[q]? :=fun q hq=>k.block q (Nat.lt_of_lt_of_le hq h.size) (fun hS=>absurd (hs q hS) Zo)
 obtain⟨h1,h2,h3,h4⟩:=h
 refine⟨?_,?_,?_,Nat.le_trans h4 k.size⟩
 ·unfold Q5 Lib.TabIs World.var? at h1⊢
  rw[gTab]at h1⊢
  simp only[Option.bind_some]at h1⊢
  rw[e 4 Zd]
  exact h1
 ·unfold World.cell? at h2⊢
  rw[e 2 Zd]
  exact h2
 ·unfold World.cell? at h3⊢
  rw[e 3 Zd]
  exact h3
theorem AZ.ext {w w':World}(h:AZ w)(k:Aq w w'):AZ w':=h.keep k fun _ h=>h.elim
theorem Q6 (w:World)(k:Nat)(os:Array Obj):Aq w (grow (w.drewN k) os):=by
 refine⟨rfl,rfl,rfl,?_,fun b hb _=> ?_⟩
 ·simp[grow,World.drewN]
 ·simp only[grow,World.drewN,Array.getElem?_append_left hb]
theorem VM (n:Int)(w:World)(h0: -9223372036854775808≤n)(h1:n≤9223372036854775807)(ht:Q5 w):
  Calls prog 155 #[.int .i64 n] w (AS fun v w'=>v= .string ⟨(Lib.itoa n).toArray⟩∧Aq w w'):=
 (Any.strconv_Itoa itoaL n h0 h1 w ht).mono fun e w' ⟨he,k,os,hw⟩=>⟨_,he,rfl,hw▸Q6 w k os⟩
theorem Uh (s:ByteArray)(w:World)(hl:s.size≤4294967295)(h:AZ w):
  Calls prog 213 #[.string s] w (AS fun v w'=>(∃n,Lib.atoiAll s.data.toList= .ok n∧v= .tuple #[.int .i64 n,.nilIface]∧Aq w w')∨((∀n,Lib.atoiAll s.data.toList≠ .ok n)∧∃n t p,v= .tuple #[.int .i64 n,.iface t (.pointer p)]∧Aq w w')):=by
 obtain⟨t1,p1,e1⟩:=h.e1
 obtain⟨t2,p2,e2⟩:=h.e2
 rcases hc:Lib.atoiAll s.data.toList with n|_|_
 ·refine(Any.strconv_Atoi_ok atoiL s Zo n hc w).mono fun e w' ⟨he,hw⟩=>⟨_,he,.inl ⟨n,rfl,rfl,?_⟩⟩
  rcases hw with rfl|⟨t,rfl⟩
  ·exact Ah.refl _ _
  ·exact F5 (Lib.bytesWorld_below _ _ _)
 ·exact(Any.strconv_Atoi_syntax atoiL s Zo hc _ w e1 (.inr ⟨t1,p1,rfl⟩)).mono fun e w' ⟨N,he,_,_,hb⟩=>⟨_,he,.inr ⟨(fun n h=>by cases h),_,_,_,rfl,F5 hb⟩⟩
 ·exact(Any.strconv_Atoi_range atoiL s Zo hc _ w e2 (.inr ⟨t2,p2,rfl⟩)).mono fun e w' ⟨N,he,_,_,hb⟩=>⟨_,he,.inr ⟨(fun n h=>by cases h),_,_,_,rfl,F5 hb⟩⟩
theorem J8 (l:List Int):AB l=l.map (Value.int .i64):=by
 induction l with
 |nil=>rfl
 |cons x l ih=>rw[BC,ih];rfl
end
def logB :ByteArray:=⟨#[108,111,103,46]⟩
def Ak (n:Int):ByteArray:=if 1≤n∧n≤999999999 then logB++⟨(Lib.itoa n).toArray⟩else⟨#[]⟩
def digs (m:Nat):List UInt8:=if m=0 then[]else Lib.decDigits m
theorem dec_len : ∀ (k u : Nat), u < 10 ^ (k + 1) → (Lib.decDigits u).length ≤ k + 1
  | 0, u, h => by rw [Lib.decDigits, dif_pos Zo]; simp
  | k + 1, u, h => by
    rw [Lib.decDigits]
    split
    · simp
    · have := dec_len k (u / 10) (by rw [Nat.pow_succ] at h; omega)
      simp only [List.length_append, List.length_singleton]; omega
theorem LZ {n:Int}(h0:1≤n)(h1:n≤999999999):(Lib.itoa n).length≤9:=by
 rw[Lib.itoa,if_neg Zo]
 exact dec_len 8 _ Zo
theorem Il {n:Int}(h:n<1∨999999999<n):Ak n=⟨#[]⟩:=if_neg Zo
theorem IX {n:Int}(h:¬(n<1∨999999999<n)):Ak n=logB++⟨(Lib.itoa n).toArray⟩:=if_pos Zo
def Nt (l:List UInt8):Nat:=l.foldl (fun a c=>a*10+(c.toNat-48)) 0
theorem PA (l:List UInt8)(c:UInt8):Nt (l++[c])=Nt l*10+(c.toNat-48):=by rw[Nt,List.foldl_append];rfl
def Oz (c:UInt8):Prop:=48≤c.toNat∧c.toNat≤57
theorem F6 (m:Nat)(h:m<10):(UInt8.ofNat (48+m)).toNat=48+m:=by rw[UInt8.toNat_ofNat'];omega
theorem valD_dec : ∀ (u : Nat), Nt (Lib.decDigits u) = u := fun u => by
  induction u using Nat.strongRecOn with
  | _ u ih =>
    rw [Lib.decDigits]
    by_cases c : u < 10
    · rw [dif_pos c, Nt, List.foldl_cons, List.foldl_nil, F6 u c]; omega
    · rw [dif_neg c, PA, ih (u / 10) Zo, F6 _ Zo]; omega
theorem dec_dig : ∀ (u : Nat), ∀ c ∈ Lib.decDigits u, Oz c := fun u => by
  induction u using Nat.strongRecOn with
  | _ u ih =>
    intro x hx
    rw [Lib.decDigits] at hx
    by_cases c : u < 10
    · rw [dif_pos c] at hx
      simp only [List.mem_singleton] at hx
      subst hx
      rw [Oz, F6 u c]; omega
    · rw [dif_neg c] at hx
      rcases List.mem_append.1 hx with hx | hx
      · exact ih (u / 10) Zo x hx
      · simp only [List.mem_singleton] at hx
        subst hx
        rw [Oz, F6 _ Zo]; omega
theorem US (u:Nat):Lib.decDigits u≠ []:=by
 rw[Lib.decDigits]
 split
 ·simp
 ·simp
theorem logB_size :logB.size=4:=rfl
theorem PB {n:Nat}(h1:1≤n)(h2:n≤999999999):Ak (n:Int)=logB++⟨(Lib.decDigits n).toArray⟩:=by
 rw[IX Zo,Lib.itoa,if_neg Zo];rfl
theorem El {n:Nat}(h1:1≤n)(h2:n≤999999999):(Ak (n:Int)).data.toList=[108,111,103,46]++Lib.decDigits n:=by
 rw[PB h1 h2,ByteArray.data_append,Array.toList_append];rfl
theorem UT {a b:ByteArray}(h:a.data.toList=b.data.toList):a=b:=ByteArray.ext (Array.toList_inj.1 h)
theorem J9 {n m:Nat}(h1:1≤n)(h2:n≤999999999)(h3:1≤m)(h4:m≤999999999)(e:Ak (n:Int)=Ak (m:Int)):n=m:=by
 have:=congrArg (fun b=>b.data.toList) e
 simp only[El h1 h2,El h3 h4]at this
 have:=List.append_cancel_left this
 rw[←valD_dec n,←valD_dec m,this]
open Classical in
noncomputable def H8 (s:ByteArray):Nat:=if h:∃n:Nat,1≤n∧n≤999999999∧Ak (n:Int)=s then Classical.choose h else 0
theorem Ka {n:Nat}(h1:1≤n)(h2:n≤999999999):H8 (Ak (n:Int))=n:=by
 have h:∃k:Nat,1≤k∧k≤999999999∧Ak (k:Int)=Ak (n:Int):=⟨n,h1,h2,rfl⟩
 rw[H8,dif_pos h]
 have:=Classical.choose_spec h
 exact J9 this.1 this.2.1 h1 h2 this.2.2
theorem Q7 {s:ByteArray}(h:H8 s≠0):1≤H8 s∧H8 s≤999999999∧Ak (H8 s:Int)=s:=by
 by_cases c:∃n:Nat,1≤n∧n≤999999999∧Ak (n:Int)=s
 ·rw[H8,dif_pos c]at h⊢
  exact Classical.choose_spec c
 ·rw[H8,dif_neg c]at h;exact absurd rfl h
theorem Hy {s:ByteArray}(h:∀n:Nat,1≤n→n≤999999999→Ak (n:Int)≠s):H8 s=0:=by
 rw[H8,dif_neg]
 rintro⟨n,h1,h2,h3⟩
 exact h n h1 h2 h3
def Em (s:ByteArray):Bool:=decide (4≤s.size)&&decide (s.extract 0 4=logB)
def C4 (s:ByteArray):ByteArray:=s.extract 4 s.size
theorem L0 (s:ByteArray)(i j:Nat):(s.extract i j).data.toList=(s.data.toList.drop i).take (j-i):=by
 rw[ByteArray.data_extract,Array.toList_extract,List.extract]
theorem Hz {n:Nat}(h1:1≤n)(h2:n≤999999999):Em (Ak (n:Int))=true∧(C4 (Ak (n:Int))).data.toList=Lib.decDigits n:=by
 have hl:=El h1 h2
 have hsz:(Ak (n:Int)).size=4+(Lib.decDigits n).length:=by
  have:=congrArg List.length hl
  rw[Array.length_toList,List.length_append]at this
  exact this
 constructor
 ·rw[Em,Bool.and_eq_true,decide_eq_true_iff,decide_eq_true_iff]
  refine⟨by omega,UT ?_⟩
  rw[L0,hl]
  simp[logB]
 ·rw[C4,L0,hl,hsz]
  simp
theorem L1 {n : Nat} (h1 : 1 ≤ n) (h2 : n ≤ 999999999) : Lib.atoiAll (Lib.decDigits n) = .ok (n : Int) := by
  have key : ∀ (l : List UInt8) (acc : Nat), (∀ c ∈ l, Oz c) → l.foldl (fun a c => a * 10 + (c.toNat - 48)) acc ≤ 999999999 → Lib.parseUint10 acc l = .ok (l.foldl (fun a c => a * 10 + (c.toNat - 48)) acc) := by
    intro l
    induction l with
    | nil => intro acc _ _; rfl
    | cons c r ih =>
      intro acc hd hle
      have mono : ∀ (l : List UInt8) (a : Nat), a ≤ l.foldl (fun a c => a * 10 + (c.toNat - 48)) a := by
        intro l
        induction l with
        | nil => intro a; exact Nat.le_refl _
        | cons x r ih => intro a; exact Nat.le_trans (show a ≤ a * 10 + (x.toNat - 48) by omega) (ih _)
      have hc := hd c Zs
      have h3 := mono r (acc * 10 + (c.toNat - 48))
      rw [List.foldl_cons] at hle ⊢
      rw [Lib.parseUint10, if_pos ⟨hc.1, hc.2⟩, if_neg Zo, if_neg Zo]
      exact ih _ (fun x hx => hd x (by simp [hx])) hle
  have hd := dec_dig n
  have hv := valD_dec n
  have hne := US n
  generalize Lib.decDigits n = l at *
  cases l with
  | nil => exact absurd rfl hne
  | cons c r =>
    have hc := hd c Zs
    have hc1 := hc.1
    have hc2 := hc.2
    have hp : Lib.parseMag (c :: r) = .ok n := by
      rw [Lib.parseMag, if_neg Zs, key _ 0 hd (by rw [Nt] at hv; omega)]
      rw [Nt] at hv
      rw [hv]
    simp only [Lib.atoiAll]
    rw [if_neg Zo, hp]
    simp only
    rw [if_neg Zo, if_neg Zo, if_neg Zo]
noncomputable def DZ (s:ByteArray):Option Int:=if H8 s=0 then none else some (H8 s:Int)
theorem S9 {s:ByteArray}{n:Int}(hm:s.size≠0)(h:Ak n=s):DZ s=some n:=by
 by_cases c:n<1∨999999999<n
 ·rw[Il c]at h;subst h;exact absurd rfl hm
 ·obtain⟨k,rfl⟩:∃k:Nat,n=k:=⟨n.toNat,by omega⟩
  subst h
  rw[DZ,Ka Zo Zo,if_neg Zo]
theorem IY {s:ByteArray}(h:Em s=false):DZ s=none:=by
 rw[DZ,Hy,if_pos rfl]
 rintro n h1 h2 rfl
 rw[(Hz h1 h2).1]at h;cases h
theorem Nu {s:ByteArray}(h:∀n,Lib.atoiAll (C4 s).data.toList≠ .ok n):DZ s=none:=by
 rw[DZ,Hy,if_pos rfl]
 rintro n h1 h2 rfl
 exact h n (by rw[(Hz h1 h2).2];exact L1 h1 h2)
theorem L2 {s:ByteArray}{n:Int}(h:Lib.atoiAll (C4 s).data.toList= .ok n)(h2:Ak n≠s):DZ s=none:=by
 rw[DZ,Hy,if_pos rfl]
 rintro m h3 h4 rfl
 rw[(Hz h3 h4).2,L1 h3 h4]at h
 injection h with h
 exact h2 (by rw[←h])
theorem HA {s:ByteArray}{n:Int}(h:DZ s=some n):1≤n∧n≤999999999∧Ak n=s:=by
 rw[DZ]at h
 split at h
 ·cases h
 ·rename_i h0
  have:=Q7 h0
  injection h with h
  subst h
  exact⟨by omega,by omega,this.2.2⟩
noncomputable def Dt (ns:List ByteArray):List Int:=ns.filterMap DZ
theorem Q8 {ns:List ByteArray}{i:Nat}{s:ByteArray}{n:Int}(h:ns[i]? =some s)(h2:DZ s=some n):Dt (ns.take (i+1))=Dt (ns.take i)++[n]:=by
 obtain⟨hi,rfl⟩:=List.getElem?_eq_some_iff.1 h
 rw[Dt,List.take_succ_eq_append_getElem hi,List.filterMap_append,List.filterMap_cons_some h2];rfl
theorem Im {ns:List ByteArray}{i:Nat}{s:ByteArray}(h:ns[i]? =some s)(h2:DZ s=none):Dt (ns.take (i+1))=Dt (ns.take i):=by
 obtain⟨hi,rfl⟩:=List.getElem?_eq_some_iff.1 h
 rw[Dt,List.take_succ_eq_append_getElem hi,List.filterMap_append,List.filterMap_cons_none h2,List.filterMap_nil,List.append_nil];rfl
theorem L3 (ns:List ByteArray)(i:Nat):(Dt (ns.take i)).length≤ns.length:=Nat.le_trans (List.length_filterMap_le _ _) Zt
def leI (x y:Int):Bool:=decide (x≤y)
def Di (l:List Int):List Int:=l.mergeSort (fun x y=>decide (x≤y))
noncomputable def Az (pl:List PF):List Int:=Di (Dt (Bi pl))
theorem En (l:List Int):(Di l).Perm l:=List.mergeSort_perm _ _
theorem K4 (l:List Int):(Di l).Pairwise (·≤·):=(List.pairwise_mergeSort (le:=fun x y=>decide (x≤y)) (fun a b c h1 h2=>by simp only[decide_eq_true_eq]at*;omega) (fun a b=>by simp only[Bool.or_eq_true,decide_eq_true_eq];omega) l).imp fun h=>by simpa using h
theorem sorted_unique :∀{l m:List Int},l.Perm m→l.Pairwise (·≤·)→m.Pairwise (·≤·)→l=m:=fun p h1 h2=>p.eq_of_pairwise (fun a b _ _ h h'=>by omega) h1 h2
theorem B5 {pl:List PF}{n:Int}:n∈Az pl↔1≤n∧n≤999999999∧B7 pl (Ak n)=true:=by
 rw[Az,(En _).mem_iff,Dt,List.mem_filterMap]
 constructor
 ·rintro⟨s,hs,h⟩
  have h3:=HA h
  rw[Bi,DK.mem_iff]at hs
  obtain⟨f,hf,rfl⟩:=List.mem_map.1 hs
  exact⟨h3.1,h3.2.1,Ba.2 ⟨f,hf,h3.2.2.symm⟩⟩
 ·rintro⟨h1,h2,h3⟩
  obtain⟨f,hf,e⟩:=Ba.1 h3
  refine⟨Ak n,?_,?_⟩
  ·rw[Bi,DK.mem_iff];exact List.mem_map.2 ⟨f,hf,e⟩
  ·obtain⟨k,rfl⟩:∃k:Nat,n=k:=⟨n.toNat,by omega⟩
   rw[DZ,Ka Zo Zo,if_neg Zo]
theorem L4 {pl:List PF}(h:(pl.map (·.name)).Nodup):(Az pl).Nodup:=by
 rw[Az,(En _).nodup_iff,Dt]
 have h2:(Bi pl).Nodup:=DK.nodup_iff.2 h
 rw[List.Nodup,List.pairwise_filterMap]
 exact h2.imp fun{a b} hne x hx y hy e=>hne (by rw[←(HA hx).2.2,←(HA hy).2.2,e])
theorem Gz {pl:List PF}(h:(pl.map (·.name)).Nodup):(Az pl).Pairwise (·<·):=
 (List.pairwise_and_iff.2 ⟨K4 _,L4 h⟩).imp fun⟨h1,h2⟩=>by have:_≠_:=h2;omega
theorem Dj (pl:List PF):(Az pl).length≤pl.length:=by
 rw[Az,(En _).length_eq,Dt]
 refine Nat.le_trans (List.length_filterMap_le _ _) ?_
 rw[Bi,DK.length_eq,List.length_map];exact Nat.le_refl _
theorem Br (n:Int):(Ak n).size≤13:=by
 by_cases c:n<1∨999999999<n
 ·rw[Il c];decide
 ·rw[IX c,ByteArray.size_append,logB_size]
  have:=LZ (n:=n) Zo Zo
  have e:(⟨(Lib.itoa n).toArray⟩:ByteArray).size=(Lib.itoa n).length:=rfl
  omega
section
open Go.RowKit Go.Sort Go.Shelf
theorem sortZ_nil :Di []=[]:=by simp[Di]
theorem Nv (s:ByteArray):(C4 s).size≤s.size:=by
 rw[C4,ByteArray.size_extract];omega
theorem UU {a:Option Addr}{xs:List Int}{c:Nat}{w:World}(hs:Af w 3 a c xs)(hl:xs.length≤4294967295):
  Calls prog 214 #[.slice a xs.length c] w (AS fun v w'=>v= .tuple #[]∧Af w' 3 a c (Di xs)∧Ah (own a) w w'):=by
 rcases hs.2 with⟨e,h0⟩|⟨g,cap,cur,e,h3,h4,h5,h6,h7,h8⟩
 ·have:xs=[]:=List.eq_nil_of_length_eq_zero h0
  subst this
  injection e with e1 e2 e3
  subst e1
  subst e3
  exact(AnyM.slices_Sort_int_none sortI none 0 w).mono fun e w' h=>⟨_,h.1,rfl,by rw[h.2,sortZ_nil];exact Af.nil _ _,by rw[h.2];exact Ah.refl _ _⟩
 ·injection e with e1 e2 e3
  subst e1
  subst e3
  have h8':cur.toList.take xs.length=AB xs:=by have e:xs.length*Enc.size Int=xs.length:=Nat.mul_one _;rw[e]at h8;exact h8
  have hH:Go.Sort.Holds (Value.int .i64) w g 0 xs.toArray:=holds_of_blockI h4 (by rw[h8',J8])
  refine(AnyM.slices_Sort_int sortI g 0 c xs w hH (Array.getElem?_eq_some_iff.1 h4).1 Zo).mono fun e w' he=> ?_
  obtain⟨rfl,n,os,rfl⟩:=he
  refine⟨_,rfl,rfl,?_,?_⟩
  ·have hr:=ownsRow_sortedI (n:=n) (os:=os) (base:=0) (ss:=xs) (ts:=xs.mergeSort fun x y=>decide (x≤y)) Zs (Nat.zero_le _) h4 h5 h6 h7
   have e1:(xs.mergeSort fun x y=>decide (x≤y)).map (Value.int .i64)=AB (Di xs):=by rw[J8];rfl
   rw[e1]at hr
   have e2:xs.length=(Di xs).length:=(En xs).length_eq.symm
   rw[e2]at hr
   exact hr
  ·have hg:=grownBy_sortedI (w:=w) (g:=g) (n:=n) (os:=os) (xs.mergeSort fun x y=>decide (x≤y)).toArray
   exact⟨hg.os,hg.tape,hg.output,hg.size,fun k hk hne=>hg.block k hk (fun e=>hne (by injection e with e;subst e;rw[Ch]))⟩
end
attribute [local irreducible] Ak Az Di Dt DZ Em C4
structure UV where
 d:Option Addr
structure LogC where
 files:UV
theorem Ta (s:ByteArray):(decide ((4:Int)≤((s.size:Nat):Int))&&decide (s.extract 0 4=(⟨#[108,111,103,46]⟩:ByteArray)))=Em s:=by
 unfold Em logB
 have:decide ((4:Int)≤((s.size:Nat):Int))=decide (4≤s.size):=by apply decide_eq_decide.2;omega
 rw[this]
theorem PC {s:ByteArray}(h:Em s=true):4≤s.size:=by unfold Em at h;rw[Bool.and_eq_true]at h;exact of_decide_eq_true h.1
theorem PD {room:Int}{pl:List PF}(h:BK room pl){i:Nat}{s:ByteArray}(hs:(Bi pl)[i]? =some s):s.size≠0∧s.size≤32:=by
 have hm:s∈Bi pl:=List.mem_of_getElem? hs
 rw[Bi,DK.mem_iff]at hm
 obtain⟨f,hf,rfl⟩:=List.mem_map.1 hm
 have:=h.may f hf
 simp only[Cr,Bool.and_eq_true,decide_eq_true_eq]at this
 omega
attribute [local irreducible] X
theorem BW (n:Int)(w:World)(hL:AZ w):
  Calls prog 92 #[.int .i64 n] w (AS (fun v w'=>v= .string (Ak n)∧Aq w w')):=by
 have hLs:=hL.size;refine Ae (n:=12) func92 rfl rfl rfl ?_;refine jG ?_;refine jV (CI rfl rfl rfl) ?_;refine jG ?_;refine jF ?_ ?_
 ·intro hc8
  refine jG ?_;refine jJ func92 ?_;exact⟨_,rfl,by rw[Il hc8],(Ah.refl _ w)⟩
 ·intro hc8
  have hil:=LZ (n:=n) Zo Zo;have hls:(⟨#[108,111,103,46]⟩:ByteArray).size=4:=rfl;have his:(⟨(Lib.itoa n).toArray⟩:ByteArray).size=(Lib.itoa n).length:=rfl;refine jG ?_;refine jR<|jC (VM n _ Zo Zo hL.tab) ?_;rintro _ a1 ⟨rfl,a0⟩;have K0:=(a0:Aq w _);refine jV (UD rfl rfl Zo) ?_;refine jG ?_;refine jJ func92 ?_;exact⟨_,rfl,by rw[IX Zo];unfold logB;rfl,K0⟩
theorem Tb (s:ByteArray)(w:World):
  Calls prog 289 #[.string s,.string (⟨#[108,111,103,46]⟩)] w (AS (fun v w'=>v= .bool (Em s)∧Aq w w')):=by
 refine Ae (n:=18) func289 rfl rfl rfl ?_;refine jG ?_;refine jV (Cz underlying9 rfl) ?_;refine jG ?_;refine jV (At (c:=4) (Cz underlying9 rfl) rfl) ?_;refine jG ?_;refine jW ?_ (hx:=by exact fun hg=>(At (c:=4) (Cz underlying9 (Bf hg)) rfl));refine jW ?_ (hx:=by exact fun hg=>(Pd (j:=4) underlying9 (Bf hg) (Bf hg) (by simp only[br]at hg;omega)));refine jG ?_;refine jW ?_ (hx:=by exact fun hg=>(N7 (Bf hg) (Bf hg)));refine jV (AJ rfl rfl rfl) ?_;refine jG ?_;refine jJ func289 ?_;exact⟨_,rfl,by rw[Ta],(Ah.refl _ w)⟩
theorem Tc (s:ByteArray)(w:World):
  Calls prog 256 #[.string s,.string (⟨#[108,111,103,46]⟩)] w (AS (fun v w'=>(Em s=true∧v= .tuple #[.string (C4 s),.bool true]∧Aq w w')∨(Em s=false∧v= .tuple #[.string s,.bool false]∧Aq w w'))):=by
 refine Ae (n:=15) func256 rfl rfl rfl ?_;refine jG ?_;refine jR<|jC (Tb s _) ?_;rintro _ a1 ⟨rfl,a0⟩;have K0:=(a0:Aq w _);refine jG ?_;refine jF ?_ ?_
 ·intro hc9
  refine jG ?_;refine jK func256 ?_;exact⟨_,rfl,.inr ⟨by simpa using hc9,rfl,K0⟩⟩
 ·intro hc9
  have hPs:=PC (s:=s) (by simpa using hc9);refine jG ?_;refine jV (At (c:=4) (Cz underlying9 rfl) rfl) ?_;refine jV (HR (i:=4) underlying9 rfl rfl Zo) ?_;refine jG ?_;refine jK func256 ?_;exact⟨_,rfl,.inl ⟨by simpa using hc9,by unfold C4;rfl,K0⟩⟩
theorem Td (s:ByteArray)(w:World):
  Calls prog 212 #[.string s,.string (⟨#[108,111,103,46]⟩)] w (AS (fun v w'=>(Em s=true∧v= .tuple #[.string (C4 s),.bool true]∧Aq w w')∨(Em s=false∧v= .tuple #[.string s,.bool false]∧Aq w w'))):=by
 refine Ae (n:=11) func212 rfl rfl rfl ?_;refine jG ?_;refine jR<|jC (Tc s _) ?_;rintro _ a3 a0;rcases a0 with a0|a0
 ·obtain⟨hPre,rfl,a1⟩:=a0
  have K0:=(a1:Aq w _);refine jG ?_;refine jK func212 ?_;exact⟨_,rfl,.inl ⟨hPre,rfl,K0⟩⟩
 ·obtain⟨hPre,rfl,a2⟩:=a0
  have K0:=(a2:Aq w _);refine jG ?_;refine jK func212 ?_;exact⟨_,rfl,.inr ⟨hPre,rfl,K0⟩⟩
theorem OA (b d:Nat)(F:Nat→Prop)(room:Int)(pl:List PF)(w:World)(hb:AA w b [jp d] 161)(hD:AF w d F room pl)(hbd:¬F b)(hL:AZ w):
  Calls prog 154 #[jp b] w (AS (fun v w'=>∃a' c',v= .slice a' (Az pl).length c'∧Af w' 3 a' c' (Az pl)∧(∀q,own a' q→w.heap.size≤q)∧Aq w w')):=by
 have hLs:=hL.size;have hok:=hD.ok;have hlen:=hok.len;have hsl:=Dj pl;have hnl:(Bi pl).length≤64:=by rw[Bi,DK.length_eq,List.length_map];exact hlen
 refine Ae (n:=58) func154 rfl rfl rfl ?_;refine jG ?_;refine jV (CW (C0 underlying222 rfl rfl) rfl) ?_;refine jG ?_;refine jT<|jO (CW (C0 underlying23 rfl rfl) rfl) ?_;refine jV (Dh rfl rfl rfl) ?_;refine jG ?_;refine Aj.condF rfl ?_;refine jG ?_;refine jR<|jC (UO hD) ?_;rintro _ aq ⟨aj,am,rfl,a0,ar,ak⟩;clear ar;have K0:=(ak:Aq w _);refine jG ?_;replace hb:=hb.ext ak;replace hD:=hD.ext ak;replace hL:=hL.ext ak;refine Aj.loop (ι:=Nat) (fun i ρ' w'=>∃az:Option Addr,∃cz:Nat,Holds ρ' [(3,.slice az ((Dt ((Bi pl).take i)).length) cz),(23,.slice aj ((Bi pl).length) am),(24,.int .i64 (((Bi pl).length:Nat):Int)),(25,.int .i64 ((i:Nat):Int))]∧Aq w w'∧(AA w' b [jp d] 161)∧(AZ w')∧(AF w' d F room pl)∧(Af w' 9 aj am (Bi pl))∧(Af w' 3 az cz (Dt ((Bi pl).take i)))∧(¬own az b)∧(∀q_,own az q_→¬F q_)∧(∀q_,own az q_→¬own aj q_)∧(∀q_,own az q_→w.heap.size≤q_)∧(i≤(Bi pl).length)) (fun i=>(Bi pl).length-i) 0 ?_ ?_
 ·rw[show Dt ((Bi pl).take 0)=[]by rw[List.take_zero];unfold Dt;rfl]
  have au:=Af.nil (α:=Int) aq 3;refine⟨_,_,⟨rfl,rfl,rfl,rfl,trivial⟩,K0,hb,hL,hD,a0,au,(Ac b),(fun q_ h1 _=>Ac q_ h1),(fun q_ h1 _=>Ac q_ h1),(fun q_ h1=>absurd h1 (Ac q_)),?_⟩
  ·omega
 clear hb hD a0;clear K0;rintro i aF aG ⟨az,cz,ao,K0,hb,hL,hD,a0,a1,a3,a4,a5,a2,hi⟩ ih1;obtain⟨ρ₀,rfl⟩:=ao.ex;clear ao;refine jG ?_;refine jF ?_ ?_
 ·intro hc26
  obtain⟨aH,aI,s,hs,aJ,aK⟩:=a0.sl.eo i;have hsm:=PD hok hs;have hil:=L3 (Bi pl) i;have hrs:=Nv s;refine jG ?_;refine jR<|jC (Td s _) ?_;rintro _ aL ae;rcases ae with ae|ae
  ·obtain⟨hPre,rfl,a6⟩:=ae
   refine jG ?_;replace hL:=hL.ext a6;refine jR<|jC (Uh (C4 s) _ Zo hL) ?_;rintro _ aM af;replace hb:=hb.ext a6;replace hD:=hD.ext a6;replace a0:=a0.ext a6;replace a1:=a1.ext a6;replace K0:=K0.ext a6;rcases af with af|af
   ·obtain⟨an,hAn,rfl,a7⟩:=af
    refine LO ?_;refine jV (BU (v:= .nilIface) rfl) ?_;refine FJ ?_;refine jT<|jO (Dv (v:= .nilIface) rfl) ?_;refine jT<|jO (UG Zk rfl rfl) ?_;refine jV (Bv rfl rfl rfl) ?_;refine jG ?_;replace hL:=hL.ext a7;refine jT<|jC (BW an _ hL) ?_;rintro _ aN ⟨rfl,a8⟩;refine jG ?_;refine jT<|jO (N7 rfl rfl) ?_;refine jV (Bv rfl rfl rfl) ?_;refine jG ?_;replace hb:=(hb.ext a7).ext a8;replace hD:=(hD.ext a7).ext a8;replace a0:=(a0.ext a7).ext a8;replace a1:=(a1.ext a7).ext a8;replace K0:=(K0.ext a7).ext a8;replace hL:=hL.ext a8;refine jF ?_ ?_
    ·intro hc49
     refine jG ?_;refine jR<|Av.buildSlice ([an]:List Int) underlying185 ty3 rfl rfl Ze ?_;intro aO aP av aw a9;clear av;replace a1:=a1.ext a9;refine jR<|Av.append (xs:=Dt ((Bi pl).take i)) (ys:=([an]:List Int)) underlying185 ty3 rfl rfl rfl a1 aw.sl Zr Zd ?_;intro al aQ aR ax ag ah ay;replace hb:=hb.ext a9;have aA:¬own al b:=ah.not a3 hb.lt;replace hD:=hD.ext a9;have aB:∀q_,own al q_→¬F q_:=ah.apart a4 hD.own_lt;replace a0:=a0.ext a9;have aC:∀q_,own al q_→¬own aj q_:=ah.apart a5 a0.own_lt;replace K0:=K0.ext a9;have aD:∀q_,own al q_→w.heap.size≤q_:=ah.ge a2 K0.size;clear ah;clear ay;refine jG ?_;refine jV (At (c:=((i+1:Nat):Int)) (An rfl rfl Zo Zo) rfl) ?_;refine jG ?_;have e:=Q8 hs (S9 hsm.1 hc49);refine ih1 (i+1) _ _ ?_ Zo;rw[e];replace hL:=(hL.ext a9).keep ag (fun q_ hq_=>Nat.le_trans hLs (a2 q_ hq_));replace hb:=hb.keep ag a3;replace hD:=hD.keepO ag (Zf a4);replace a0:=a0.keepO ag (Zf a5);replace K0:=K0.new ag a2;refine⟨_,_,⟨rfl,rfl,rfl,rfl,trivial⟩,K0,hb,hL,hD,a0,ax,aA,aB,aC,aD,?_⟩
     ·omega
    ·intro hc49
     refine jG ?_;refine jV (At (c:=((i+1:Nat):Int)) (An rfl rfl Zo Zo) rfl) ?_;refine jG ?_;have e:=Im hs (L2 hAn hc49);refine ih1 (i+1) _ _ ?_ Zo;rw[e];refine⟨_,_,⟨rfl,rfl,rfl,rfl,trivial⟩,K0,hb,hL,hD,a0,a1,a3,a4,a5,a2,?_⟩
     ·omega
   ·obtain⟨hAn,en_,et_,ep_,rfl,aa⟩:=af
    refine LO ?_;refine jV (BU (v:= .iface et_ (.pointer ep_)) rfl) ?_;refine FJ ?_;refine jT<|jO (Dv (v:= .iface et_ (.pointer ep_)) rfl) ?_;refine jT<|jO (UF Zk rfl rfl) ?_;refine jV (Bv rfl rfl rfl) ?_;refine jG ?_;refine jV (AJ (b:=false) (e:=false) rfl rfl rfl) ?_;refine jG ?_;refine Aj.condF rfl ?_;refine jG ?_;refine jV (At (c:=((i+1:Nat):Int)) (An rfl rfl Zo Zo) rfl) ?_;refine jG ?_;have e:=Im hs (Nu hAn);refine ih1 (i+1) _ _ ?_ Zo;rw[e];replace hb:=hb.ext aa;replace hL:=hL.ext aa;replace hD:=hD.ext aa;replace a0:=a0.ext aa;replace a1:=a1.ext aa;replace K0:=K0.ext aa;refine⟨_,_,⟨rfl,rfl,rfl,rfl,trivial⟩,K0,hb,hL,hD,a0,a1,a3,a4,a5,a2,?_⟩
    ·omega
  ·obtain⟨hPre,rfl,ab⟩:=ae
   refine jG ?_;replace hL:=hL.ext ab;refine jR<|jC (Uh s _ Zo hL) ?_;rintro _ aS ai;replace hb:=hb.ext ab;replace hD:=hD.ext ab;replace a0:=a0.ext ab;replace a1:=a1.ext ab;replace K0:=K0.ext ab;rcases ai with ai|ai
   ·obtain⟨an,hAn,rfl,ac⟩:=ai
    refine LO ?_;refine jV (BU (v:= .nilIface) rfl) ?_;refine jG ?_;refine jV (AJ (b:=false) (e:=false) rfl rfl rfl) ?_;refine jG ?_;refine jV (AJ (b:=false) (e:=false) rfl rfl rfl) ?_;refine jG ?_;refine Aj.condF rfl ?_;refine jG ?_;refine jV (At (c:=((i+1:Nat):Int)) (An rfl rfl Zo Zo) rfl) ?_;refine jG ?_;have e:=Im hs (IY hPre);refine ih1 (i+1) _ _ ?_ Zo;rw[e];replace hb:=hb.ext ac;replace hL:=hL.ext ac;replace hD:=hD.ext ac;replace a0:=a0.ext ac;replace a1:=a1.ext ac;replace K0:=K0.ext ac;refine⟨_,_,⟨rfl,rfl,rfl,rfl,trivial⟩,K0,hb,hL,hD,a0,a1,a3,a4,a5,a2,?_⟩
    ·omega
   ·obtain⟨hAn,en_,et_,ep_,rfl,ad⟩:=ai
    refine LO ?_;refine jV (BU (v:= .iface et_ (.pointer ep_)) rfl) ?_;refine jG ?_;refine jV (AJ (b:=false) (e:=false) rfl rfl rfl) ?_;refine jG ?_;refine jV (AJ (b:=false) (e:=false) rfl rfl rfl) ?_;refine jG ?_;refine Aj.condF rfl ?_;refine jG ?_;refine jV (At (c:=((i+1:Nat):Int)) (An rfl rfl Zo Zo) rfl) ?_;refine jG ?_;have e:=Im hs (IY hPre);refine ih1 (i+1) _ _ ?_ Zo;rw[e];replace hb:=hb.ext ad;replace hL:=hL.ext ad;replace hD:=hD.ext ad;replace a0:=a0.ext ad;replace a1:=a1.ext ad;replace K0:=K0.ext ad;refine⟨_,_,⟨rfl,rfl,rfl,rfl,trivial⟩,K0,hb,hL,hD,a0,a1,a3,a4,a5,a2,?_⟩
    ·omega
 ·intro hc26
  have hil:=L3 (Bi pl) i;refine jG ?_;refine jR<|jC (UU a1 Zo) ?_;rintro _ aT ⟨rfl,ap,aE⟩;replace a1:=ap;clear ap;refine jG ?_;refine jJ func154 ?_;have hie:i=(Bi pl).length:=by omega
  subst hie;rw[List.take_length]at a1;have e_:Di (Dt (Bi pl))=Az pl:=by unfold Az;rfl
  have e2_:(Dt ((Bi pl).take (Bi pl).length)).length=(Az pl).length:=by rw[List.take_length,←e_,(En _).length_eq]
  rw[e_]at a1;rw[e2_];replace K0:=K0.new aE a2;exact⟨_,rfl,az,cz,rfl,a1,a2,K0⟩
end Go.Proofs.YtjkaicjmfgekjaaGreatDoor
namespace Go.Proofs.YtjkaicjmfgekjaaGreatDoor
open Go.Proofs.Tryz
attribute [local irreducible] RD RS Av RL RA RT CJ Aj
attribute [local irreducible] crcN B6 B3 E1 BV leL Cm Ak Az Di Dt DZ Em C4
structure RB where
 a:Option Addr
 c:Nat
 b:List UInt8
def RB.h (r:RB):SH:=⟨r.a,r.b.length,r.c⟩
def A2 (rs:List RB):Nat→Prop:=fun q=>∃r∈rs,own r.a q
def Bt (w:World)(rs:List RB):Prop:=∀r∈rs,Af w 5 r.a r.c r.b
section
variable {w w':World}{S:Nat→Prop}{rs ss:List RB}{r:RB}
theorem Bt.own_lt (h:Bt w rs):∀q,A2 rs q→q<w.heap.size:=fun q ⟨r,hr,hq⟩=>(h r hr).own_lt q hq
theorem Bt.keepO (h:Bt w rs)(k:Ah S w w')(hn:∀q,A2 rs q→¬S q):Bt w' rs:=fun r hr=>(h r hr).keepO k (fun q hq=>hn q ⟨r,hr,hq⟩)
theorem Bt.ext (h:Bt w rs)(k:Aq w w'):Bt w' rs:=h.keepO k fun _ _=>id
theorem Bt.nil (w:World):Bt w []:=fun _ h=>absurd h Zs
theorem Bt.app (h:Bt w rs)(h2:Bt w ss):Bt w (rs++ss):=fun r hr=>(List.mem_append.1 hr).elim (h r) (h2 r)
theorem Bt.snoc (h:Bt w rs){a:Option Addr}{c:Nat}{b:List UInt8}(h2:Af w 5 a c b):Bt w (rs++[⟨a,c,b⟩]):=h.app fun r hr=>by simp only[List.mem_singleton]at hr;subst hr;exact h2
theorem Bt.sub (h:Bt w rs)(hs:∀r∈ss,r∈rs):Bt w ss:=fun r hr=>h r (hs r hr)
theorem recs_case :∀q,A2 (rs++ss) q→A2 rs q∨A2 ss q:=fun q ⟨r,hr,hq⟩=>(List.mem_append.1 hr).elim (fun h=> .inl ⟨r,h,hq⟩) (fun h=> .inr ⟨r,h,hq⟩)
theorem GA {a:Option Addr}{c:Nat}{b:List UInt8}:∀q,A2 (rs++[⟨a,c,b⟩]) q→own a q∨A2 rs q:=fun q h=>(recs_case q h).elim .inr (fun⟨r,hr,hq⟩=>by simp only[List.mem_singleton]at hr;subst hr;exact .inl hq)
theorem E2 (hs:∀r∈ss,r∈rs):∀q,A2 ss q→A2 rs q:=fun q ⟨r,hr,hq⟩=>⟨r,hs r hr,hq⟩
theorem Te (h:Bt w rs){j:Nat}{s:SH}(hs:(rs.map RB.h)[j]? =some s):∃r,rs[j]? =some r∧s=r.h∧Af w 5 r.a r.c r.b:=by
 rw[List.getElem?_map,Option.map_eq_some_iff]at hs
 obtain⟨r,hr,rfl⟩:=hs
 exact⟨r,hr,rfl,h r (List.mem_of_getElem? hr)⟩
end
structure Q9 (w:World)(a:Option Addr)(xs:List UInt8):Prop where
 sl:As w a xs
 lt:∀q,own a q→q<w.heap.size
theorem Q9.own_lt {w:World}{a:Option Addr}{xs:List UInt8}(h:Q9 w a xs):∀q,own a q→q<w.heap.size:=h.lt
theorem Q9.keepO {S:Nat→Prop}{w w':World}{a:Option Addr}{xs:List UInt8}(h:Q9 w a xs)(k:Ah S w w')(hn:∀q,own a q→¬S q):Q9 w' a xs:=⟨h.sl.keep k (fun x hx=>hn _ ⟨x,hx,rfl⟩),fun q hq=>Nat.lt_of_lt_of_le (h.lt q hq) k.size⟩
theorem Q9.ext {w w':World}{a:Option Addr}{xs:List UInt8}(h:Q9 w a xs)(k:Aq w w'):Q9 w' a xs:=h.keepO k fun _ _=>id
theorem Af.slo {w:World}{T:TypeId}{a:Option Addr}{c:Nat}{xs:List UInt8}(h:Af w T a c xs):Q9 w a xs:=⟨h.sl,h.own_lt⟩
def AG (b:List UInt8):List (List UInt8)×List UInt8:=
 if b=[]then([],[])else match h:Cm b with
 | .error _=>([],b)
 | .ok (p,r)=>(p::(AG r).1,(AG r).2)
termination_by b.length
decreasing_by all_goals (have:=(IW h).1;omega)
theorem framesR_nil :AG []=([],[]):=by rw[AG];simp
theorem HV {b:List UInt8}{e:Int}(h0:b≠ [])(h:Cm b= .error e):AG b=([],b):=by
 rw[AG,if_neg h0]
 split
 ·rfl
 ·rename_i h2;rw[h]at h2;cases h2
theorem GB {b p r:List UInt8}(h0:b≠ [])(h:Cm b= .ok (p,r)):AG b=(p::(AG r).1,(AG r).2):=by
 rw[AG,if_neg h0]
 split
 ·rename_i h2;rw[h]at h2;cases h2
 ·rename_i h2;rw[h]at h2;cases h2;rfl
theorem framesR_len : ∀ (b : List UInt8), (AG b).1.length * 5 + (AG b).2.length ≤ b.length := fun b => by
  induction hb : b.length using Nat.strongRecOn generalizing b with
  | _ k ih =>
    by_cases h0 : b = []
    · subst h0; rw [framesR_nil]; simp
    cases h : Cm b with
    | error e => rw [HV h0 h]; simp; omega
    | ok q =>
      obtain ⟨p, r⟩ := q
      have h2 := (IW h).1
      have := ih r.length Zo r rfl
      rw [GB h0 h]
      simp only [List.length_cons]
      omega
theorem CX {b:List UInt8}(h:0<b.length):b≠ []:=fun e=>by subst e;exact absurd h Zd
def freshN :ByteArray:=⟨#[108,111,103,46,110,101,119]⟩
noncomputable def AW (pl:List PF):Int:=((Az pl).getLast?).getD 0
def Cc (room:Int)(pl:List PF)(b:List UInt8)(n:Int):Int×List PF:=
 if CN room pl freshN b=0 then
  if Cb (CH room pl freshN b) freshN=0 then(Ez (Cj (CH room pl freshN b) freshN) freshN (Ak n),Gi (Cj (CH room pl freshN b) freshN) freshN (Ak n))
  else(Cb (CH room pl freshN b) freshN,Cj (CH room pl freshN b) freshN)
 else(CN room pl freshN b,CH room pl freshN b)
def Dk (pl:List PF)(ns:List Int):List PF:=pl.filter fun f=> !ns.any fun n=>decide (f.name=Ak n)
def Fm (room:Int)(pl:List PF)(b:List UInt8)(n:Int)(rest:List Int):Int×List PF:=
 if b=[]then(0,Dk (A3 pl (Ak n)) rest)else if (Cc room pl b n).1=0 then(0,Dk (Cc room pl b n).2 rest)else Cc room pl b n
theorem Kb (pl:List PF):Dk pl []=pl:=by rw[Dk,List.filter_eq_self];simp
theorem IZ (pl:List PF)(n:Int)(ns:List Int):Dk pl (n::ns)=A3 (Dk pl ns) (Ak n):=by
 rw[Dk,A3,Dk,List.filter_filter]
 refine List.filter_congr fun f _=> ?_
 by_cases h:f.name=Ak n<;>simp[h]
section
variable {room :Int}{pl:List PF}{b:List UInt8}{n m:Int}
theorem K5 {s t:ByteArray}(h:B7 pl s=true)(hne:s≠t):B7 (A3 pl t) s=true:=by
 obtain⟨f,hf,rfl⟩:=Ba.1 h
 exact Ba.2 ⟨f,List.mem_filter.2 ⟨hf,by simpa using hne⟩,rfl⟩
theorem K6 {s t:ByteArray}{u:PF→PF}(hu:∀f,(u f).name=f.name)(h:B7 pl s=true):B7 (DS pl t u) s=true:=by
 obtain⟨f,hf,rfl⟩:=Ba.1 h
 refine Ba.2 ⟨_,List.mem_map.2 ⟨f,hf,rfl⟩,?_⟩
 split
 ·exact hu f
 ·rfl
theorem K7 {s t:ByteArray}(h:B7 pl s=true):B7 (CH room pl t b) s=true:=by
 rw[CH]
 split
 ·split
  ·exact K6 (fun _=>rfl) h
  ·obtain⟨f,hf,rfl⟩:=Ba.1 h
   exact Ba.2 ⟨f,List.mem_append_left _ hf,rfl⟩
 ·exact h
theorem Tf {s t t2:ByteArray}(h:B7 pl s=true)(h1:s≠t)(h2:s≠t2):B7 (Gi pl t t2) s=true:=by
 rw[Gi]
 split
 ·split
  ·obtain⟨f,hf,rfl⟩:=Ba.1 (K5 (K5 h h1) h2)
   exact Ba.2 ⟨f,List.mem_append_left _ hf,rfl⟩
  ·exact h
 ·exact h
theorem Ra {s:ByteArray}(h:B7 pl s=true)(h1:s≠freshN)(h2:s≠Ak n):B7 (Cc room pl b n).2 s=true:=by
 rw[Cc]
 split
 ·split
  ·exact Tf (K6 (fun _=>rfl) (K7 h)) h1 h2
  ·exact K6 (fun _=>rfl) (K7 h)
 ·exact K7 h
theorem Kd (n:Int):Ak n≠freshN:=by
 intro e
 by_cases c:n<1∨999999999<n
 ·rw[Il c]at e;exact absurd e Zd
 ·obtain⟨k,rfl⟩:∃k:Nat,n=k:=⟨n.toNat,by omega⟩
  have h1:=El (n:=k) Zo Zo
  rw[e]at h1
  have h2:=dec_dig k
  have h3:Lib.decDigits k=[110,101,119]:=by
   have:freshN.data.toList=[108,111,103,46]++[110,101,119]:=rfl
   rw[this]at h1
   exact(List.append_cancel_left h1).symm
  have:=h2 110 (by rw[h3];simp)
  exact absurd this.2 Zd
theorem Dz {n:Int}(h1:1≤n)(h2:n≤999999999):Cr (Ak n)=true:=by
 obtain⟨k,rfl⟩:∃k:Nat,n=k:=⟨n.toNat,by omega⟩
 have hs:=Br (k:Int)
 have hl:=El (n:=k) Zo Zo
 have hne:(Ak (k:Int)).size≠0:=by
  have h3:=congrArg List.length hl
  rw[Array.length_toList,List.length_append]at h3
  have h4:(Ak (k:Int)).size=(Ak (k:Int)).data.size:=rfl
  simp only[List.length_cons]at h3
  omega
 rw[Cr,Bool.and_eq_true,Bool.and_eq_true,decide_eq_true_iff,decide_eq_true_iff]
 refine⟨?_,hne,by omega⟩
 rw[hl,List.all_append,Bool.and_eq_true]
 refine⟨by decide,List.all_eq_true.2 fun c hc=> ?_⟩
 have:=dec_dig k c hc
 rw[SI,decide_eq_true_iff]
 exact .inr (.inr (.inr (.inl ⟨this.1,this.2⟩)))
theorem DU {s:ByteArray}(hm:Cr s=true)(h:B7 pl s=true):Cb pl s=0:=by rw[Cb,if_pos hm,if_pos h]
theorem GV (h:n∈Az pl):Cb pl (Ak n)=0:=by
 obtain⟨h1,h2,h3⟩:=B5.1 h
 exact DU (Dz h1 h2) h3
theorem FM {n m:Int}(h1:1≤n)(h2:n≤999999999)(h3:1≤m)(h4:m≤999999999)(e:Ak n=Ak m):n=m:=by
 obtain⟨k,rfl⟩:∃k:Nat,n=k:=⟨n.toNat,by omega⟩
 obtain⟨j,rfl⟩:∃j:Nat,m=j:=⟨m.toNat,by omega⟩
 have:=J9 Zo Zo Zo Zo e
 omega
theorem L5 {s:ByteArray}{ns:List Int}(h:B7 pl s=true)(hne:∀m∈ns,s≠Ak m):B7 (Dk pl ns) s=true:=by
 obtain⟨f,hf,rfl⟩:=Ba.1 h
 refine Ba.2 ⟨f,List.mem_filter.2 ⟨hf,?_⟩,rfl⟩
 simp only[Bool.not_eq_true',List.any_eq_false,decide_eq_true_eq]
 exact fun m hm e=>hne m hm e
end
structure HB (l:List Int):Prop where
 rise:l.Pairwise (·<·)
 low:∀n∈l,1≤n∧n≤999999999
theorem Tg {room:Int}{pl:List PF}(h:BK room pl):HB (Az pl):=⟨Gz h.nodup,fun n hn=>by have:=B5.1 hn;exact⟨this.1,this.2.1⟩⟩
theorem HB.lt {l:List Int}(h:HB l){i j:Nat}{n m:Int}(hi:l[i]? =some n)(hj:l[j]? =some m)(hij:i<j):n<m:=by
 obtain⟨h1,rfl⟩:=List.getElem?_eq_some_iff.1 hi
 obtain⟨h2,rfl⟩:=List.getElem?_eq_some_iff.1 hj
 exact List.pairwise_iff_getElem.1 h.rise i j h1 h2 hij
theorem HB.ne {l:List Int}(h:HB l){i j:Nat}{n m:Int}(hi:l[i]? =some n)(hj:l[j]? =some m)(hij:i<j):Ak m≠Ak n:=fun e=>by
 have h1:=h.low n (List.mem_of_getElem? hi)
 have h2:=h.low m (List.mem_of_getElem? hj)
 have h3:=h.lt hi hj hij
 have:=FM h1.1 h1.2 h2.1 h2.2 e.symm
 omega
theorem GW {l:List Int}{j:Nat}{m:Int}(h:l[j]? =some m):l.drop j=m::l.drop (j+1):=by
 obtain⟨h1,rfl⟩:=List.getElem?_eq_some_iff.1 h
 exact List.drop_eq_getElem_cons h1
theorem PE {pl:List PF}(h:(Az pl).length=0):AW pl=0:=by rw[AW,List.eq_nil_of_length_eq_zero h];rfl
theorem Th {pl:List PF}{x:Int}(h:(Az pl)[(Az pl).length-1]? =some x):AW pl=x:=by rw[AW,List.getLast?_eq_getElem?,h];rfl
def DA (pl:List PF)(ns:List Int):Nat:=(ns.map fun n=>EY pl (Ak n)).sum
theorem L6 {pl:List PF}{ns:List Int}{i:Nat}{n:Int}(h:ns[i]? =some n):DA pl (ns.take (i+1))=DA pl (ns.take i)+EY pl (Ak n):=by
 obtain⟨hi,rfl⟩:=List.getElem?_eq_some_iff.1 h
 rw[DA,List.take_succ_eq_append_getElem hi,List.map_append,List.sum_append_nat];simp[DA]
theorem I0 {room : Int} {pl : List PF} (h : BK room pl) (s : ByteArray) : EY pl s ≤ 16777216 := by
  rw [EY]
  cases hl : Cs pl s with
  | none => simp
  | some f =>
    have h1 := JU (IN hl).1
    have h2 := h.used
    have h3 := h.room.2
    simp only [Option.map_some, Option.getD_some]
    omega
theorem Ke {room : Int} {pl : List PF} (h : BK room pl) : ∀ (ns : List Int), DA pl ns ≤ ns.length * 16777216
  | [] => by simp [DA]
  | n :: ns => by
    have h1 := Ke h ns
    have h2 := I0 h (Ak n)
    rw [DA] at h1 ⊢
    simp only [List.map_cons, List.sum_cons, List.length_cons, Nat.add_mul]
    omega
attribute [local irreducible] X
theorem Ui (b d:Nat)(F:Nat→Prop)(room:Int)(pl:List PF)(w:World)(hb:AA w b [jp d] 161)(hD:AF w d F room pl)(hbd:¬F b)(hL:AZ w):
  Calls prog 91 #[jp b] w (AS (fun v w'=>v= .int .i64 (AW pl)∧Aq w w')):=by
 have hLs:=hL.size;have hok:=hD.ok;have hlen:=hok.len;have hsl:=Dj pl;refine Ae (n:=15) func91 rfl rfl rfl ?_;refine jG ?_;refine jR<|jC (OA _ _ _ _ _ _ hb hD hbd hL) ?_;rintro _ a3 ⟨a4,a5,rfl,a1,a2,a0⟩;clear a2;have K0:=(a0:Aq w _);refine jG ?_;replace hb:=hb.ext a0;replace hD:=hD.ext a0;replace hL:=hL.ext a0;refine jF ?_ ?_
 ·intro hc8
  refine jG ?_;refine jJ func91 ?_;exact⟨_,rfl,by rw[PE Zo],K0⟩
 ·intro hc8
  refine jG ?_;refine jV (At (c:=(((Az pl).length-1:Nat):Int)) (BE rfl rfl Zo Zo) Zo) ?_;obtain⟨a6,a7,x,hx,a8,a9⟩:=a1.sl.el (i:=(Az pl).length-1) Zl;refine jG ?_;refine jJ func91 ?_;exact⟨_,rfl,by rw[Th hx],K0⟩
theorem Ti (b d:Nat)(F:Nat→Prop)(room:Int)(pl:List PF)(w:World)(hb:AA w b [jp d] 161)(hD:AF w d F room pl)(hbd:¬F b)(hL:AZ w):
  Calls prog 96 #[jp b] w (AS (fun v w'=>v= .int .i64 ((DA pl (Az pl):Nat):Int)∧Aq w w')):=by
 have hLs:=hL.size;have hok:=hD.ok;have hlen:=hok.len;have hsl:=Dj pl;refine Ae (n:=32) func96 rfl rfl rfl ?_;refine jG ?_;refine jR<|jC (OA _ _ _ _ _ _ hb hD hbd hL) ?_;rintro _ a9 ⟨a5,a6,rfl,a0,a8,a4⟩;clear a8;have K0:=(a4:Aq w _);refine jG ?_;replace hb:=hb.ext a4;replace hD:=hD.ext a4;replace hL:=hL.ext a4;refine Aj.loop (ι:=Nat) (fun i ρ' w'=>Holds ρ' [(0,jp b),(3,.int .i64 ((DA pl ((Az pl).take i):Nat):Int)),(10,.slice a5 ((Az pl).length) a6),(11,.int .i64 (((Az pl).length:Nat):Int)),(12,.int .i64 ((i:Nat):Int))]∧Aq w w'∧(AA w' b [jp d] 161)∧(AZ w')∧(AF w' d F room pl)∧(Af w' 3 a5 a6 (Az pl))∧(i≤(Az pl).length)) (fun i=>(Az pl).length-i) 0 ?_ ?_
 ·rw[show DA pl ((Az pl).take 0)=0 by rw[List.take_zero];rfl]
  refine⟨⟨rfl,rfl,rfl,rfl,rfl,trivial⟩,K0,hb,hL,hD,a0,?_⟩
  ·omega
 clear hb hD a0;clear K0;rintro i aa ab ⟨a7,K0,hb,hL,hD,a0,hi⟩ ih1;obtain⟨ρ₀,rfl⟩:=a7.ex;clear a7;refine jG ?_;refine jF ?_ ?_
 ·intro hc13
  obtain⟨ac,ad,x,hx,ae,af⟩:=a0.sl.eo i;refine jG ?_;have hnm:=Br x;refine Aj.drawS [] [0,1,2,1003,4,2005,2006,7,8,9,10,11,12,13] ?_;intro ag a1;replace hb:=hb.ext a1;refine jM (jb hb Jn) ?_;refine jG ?_;replace hL:=hL.ext a1;refine jU rfl<|jC (BW x _ hL) ?_;rintro _ ah ⟨rfl,a2⟩;replace hb:=hb.ext a2;refine jG ?_;replace hD:=(hD.ext a1).ext a2;refine jU rfl<|jC (Ug hD (Ak x) (by first|omega|decide)) ?_;rintro _ ai ⟨rfl,a3⟩;have hby:=Ke hok ((Az pl).take i);have hsz:=I0 hok (Ak x);have htl:=List.length_take_le i (Az pl);replace hb:=hb.ext a3;refine jG ?_;refine jV (At (c:=(((DA pl ((Az pl).take i))+(EY pl (Ak x)):Nat):Int)) (An rfl rfl Zo Zo) rfl) ?_;refine jG ?_;refine jV (At (c:=((i+1:Nat):Int)) (An rfl rfl Zo Zo) rfl) ?_;refine jG ?_;have e:=L6 (pl:=pl) hx;refine ih1 (i+1) _ _ ?_ Zo;rw[e];replace a0:=((a0.ext a1).ext a2).ext a3;replace K0:=((K0.ext a1).ext a2).ext a3;replace hL:=(hL.ext a2).ext a3;replace hD:=hD.ext a3;refine⟨⟨rfl,rfl,rfl,rfl,rfl,trivial⟩,K0,hb,hL,hD,a0,?_⟩
  ·omega
 ·intro hc13
  refine jG ?_;refine jJ func96 ?_;have hie:i=(Az pl).length:=by omega
  exact⟨_,rfl,by rw[hie,List.take_length],K0⟩
theorem Tj (a:Option Addr)(xs:List UInt8)(c:Nat)(w:World)(hs:Q9 w a xs)(hl:xs.length≤1073741824):
  Calls prog 177 #[.slice a xs.length c] w (AS (fun v w'=>∃a' c',∃rs:List RB,v= .tuple #[.slice a' (rs.map RB.h).length c',.int .i64 ((xs.length-(AG xs).2.length:Nat):Int)]∧Af w' 98 a' c' (rs.map RB.h)∧Bt w' rs∧rs.map RB.b=(AG xs).1∧(∀q,own a' q→w.heap.size≤q)∧(∀q,A2 rs q→w.heap.size≤q)∧(∀q,own a' q→¬A2 rs q)∧Aq w w')):=by
 refine Ae (n:=32) func177 rfl rfl rfl ?_;have hR:Bt w ([]:List RB):=Bt.nil w;refine jG ?_;refine Aj.loop (ι:=List UInt8) (fun lf ρ' w'=>∃rs:List RB,∃ao:Option Addr,∃co:Nat,∃al:Option Addr,∃cl:Nat,Holds ρ' [(0,.slice a xs.length c),(4,.slice ao ((rs.map RB.h).length) co),(5,.slice al lf.length cl)]∧Aq w w'∧(Bt w' rs)∧(Q9 w' al lf)∧(Af w' 98 ao co (rs.map RB.h))∧(∀q_,A2 rs q_→¬own al q_)∧(∀q_,A2 rs q_→¬own ao q_)∧(∀q_,A2 rs q_→w.heap.size≤q_)∧(∀q_,own al q_→¬own ao q_)∧(∀q_,own ao q_→w.heap.size≤q_)∧(rs.length+lf.length≤xs.length)∧(lf.length≤xs.length)∧(rs.map RB.b++(AG lf).1=(AG xs).1)∧((AG xs).2=(AG lf).2)) (fun lf=>lf.length) xs ?_ ?_
 ·have au:=Af.nil (α:=SH) w 98
  refine⟨[],_,_,_,_,⟨rfl,rfl,rfl,trivial⟩,(Ah.refl _ w),hR,hs,au,(fun q_ ⟨_,h_,_⟩ _=>absurd h_ Zs),(fun q_ h1 h2=>(fun q_ h1 _=>Ac q_ h1) q_ h2 h1),(fun q_ ⟨_,h_,_⟩=>absurd h_ Zs),(fun q_ h1 h2=>(fun q_ h1 _=>Ac q_ h1) q_ h2 h1),(fun q_ h1=>absurd h1 (Ac q_)),?_,?_,?_,?_⟩
  ·exact Nat.le_of_eq (Nat.zero_add _)
  ·exact Nat.le_refl _
  ·rfl
  ·rfl
 clear hs hR;rintro lf aN aO ⟨rs,ao,co,al,cl,ai,K0,a0,av,a4,aP,ab,af,aQ,ac,hrs,hll,hFr,hFr2⟩ ih1;obtain⟨ρ₀,rfl⟩:=ai.ex;clear ai;refine jG ?_;refine jF ?_ ?_
 ·intro hc12
  refine jG ?_;refine jR<|jC (Q4 _ _ _ _ av.sl Zo) ?_;rintro _ aR a8;rcases a8 with a8|a8
  ·obtain⟨a2,aw,a1,a3,ad,aS,aj,rfl,a5,a6,ax,ak,am,ag⟩:=a8
   have an:=Ao ak a4.own_lt;have ay:=A1 K0.size ak;have az:=Ao am a0.own_lt;have ap:=Ao am a4.own_lt;refine jG ?_;refine Aj.condF rfl ?_;have hrl:(rs.map RB.h).length=rs.length:=List.length_map ..;refine jG ?_;refine jR<|Av.buildSlice ([⟨a1,a2.length,a3⟩]:List SH) underlying130 ty98 rfl rfl Ze ?_;intro aT aU aA aB a9;clear aA;replace a4:=(a4.ext ag).ext a9;refine jR<|Av.append (xs:=rs.map RB.h) (ys:=([⟨a1,a2.length,a3⟩]:List SH)) underlying130 ty98 rfl rfl rfl a4 aB.sl Zr Zd ?_;intro a7 aV aC aq ae aa aD;replace a0:=(a0.ext ag).ext a9;have aE:∀q_,own a7 q_→¬A2 rs q_:=aa.apart (Zf ab) a0.own_lt;replace a5:=a5.ext a9;have aF:∀q_,own a7 q_→¬own a1 q_:=aa.apart (Zf an) a5.own_lt;replace a6:=a6.ext a9;have aG:∀q_,own a7 q_→¬own ad q_:=aa.apart (Zf ap) a6.own_lt;replace K0:=(K0.ext ag).ext a9;have aH:∀q_,own a7 q_→w.heap.size≤q_:=aa.ge ac K0.size;clear aa;clear aD;have eRR:(rs.map RB.h)++([⟨a1,a2.length,a3⟩]:List SH)=(rs++([⟨a1,a3,a2⟩]:List RB)).map RB.h:=by rw[List.map_append];rfl
   rw[eRR]at aq⊢;replace a0:=a0.keepO ae ab;replace a5:=a5.keepO ae an;have hR':Bt aC (rs++([⟨a1,a3,a2⟩]:List RB)):=Bt.snoc a0 a5;have aI:∀q_,A2 (rs++([⟨a1,a3,a2⟩]:List RB)) q_→¬own ad q_:=fun q_ x_ z_=>(GA _ x_).elim (fun y_=>ax q_ y_ z_) (fun y_=>(fun y_=>(Zf az) q_ y_ z_) y_);have aJ:∀q_,A2 (rs++([⟨a1,a3,a2⟩]:List RB)) q_→¬own a7 q_:=fun q_ x_ z_=>(GA _ x_).elim (fun y_=>(Zf aF) q_ y_ z_) (fun y_=>(fun y_=>(Zf aE) q_ y_ z_) y_);have aK:∀q_,A2 (rs++([⟨a1,a3,a2⟩]:List RB)) q_→w.heap.size≤q_:=fun q_ x_=>(GA _ x_).elim (fun y_=>ay q_ y_) (fun y_=>(fun y_=>af q_ y_) y_);replace a6:=a6.keepO ae ap;have hLf:=Af.slo a6;have aL:∀q_,own ad q_→¬own a7 q_:=fun q_ x_ z_=>(fun y_=>(Zf aG) q_ y_ z_) ((fun q_ h_=>h_) _ x_);have aM:∀q_,own ad q_→¬A2 (rs++([⟨a1,a3,a2⟩]:List RB)) q_:=fun q_ x_ z_=>(fun y_=>(Zf aI) q_ y_ z_) ((fun q_ h_=>h_) _ x_);refine jG ?_;have hU2:=GB (CX Zo) aj;have hUl:=IW aj;refine ih1 aw _ _ ?_ Zo;replace K0:=K0.new ae ac;refine⟨rs++([⟨a1,a3,a2⟩]:List RB),_,_,_,_,⟨rfl,rfl,rfl,trivial⟩,K0,hR',hLf,aq,(Zf aM),aJ,aK,aL,aH,?_,?_,?_,?_⟩
   ·simp only[List.length_append,List.length_cons,List.length_nil];omega
   ·omega
   ·rw[List.map_append,List.append_assoc,←hFr,hU2];rfl
   ·rw[hFr2,hU2]
  ·obtain⟨aW,ar,rfl,ah⟩:=a8
   have hne:=LY ar;refine jG ?_;replace a0:=a0.ext ah;replace a4:=a4.ext ah;replace K0:=K0.ext ah;refine jF ?_ ?_
   ·intro hc20
    refine jG ?_;refine jV (At (c:=((xs.length-lf.length:Nat):Int)) (BE rfl rfl Zo Zo) Zo) ?_;refine jG ?_;refine jK func177 ?_;have hE:=HV (CX Zo) ar;rw[hE]at hFr hFr2;simp only[List.append_nil]at hFr;exact⟨_,rfl,ao,co,rs,by rw[hFr2],a4,a0,hFr,ac,af,(Zf ab),K0⟩
   ·intro hc20
    exact absurd hc20 hne
 ·intro hc12
  refine jG ?_;refine jV (At (c:=((xs.length-lf.length:Nat):Int)) (BE rfl rfl Zo Zo) Zo) ?_;refine jG ?_;refine jK func177 ?_;have hlf:lf=[]:=List.eq_nil_of_length_eq_zero Zo;have hE:AG lf=([],lf):=by rw[hlf];exact framesR_nil
  rw[hE]at hFr hFr2;simp only[List.append_nil]at hFr;exact⟨_,rfl,ao,co,rs,by rw[hFr2],a4,a0,hFr,ac,af,(Zf ab),K0⟩
end Go.Proofs.YtjkaicjmfgekjaaGreatDoor
