/- The shelf's contracts of strings.Split, strings.Index, strings.Trim, strconv.Atoi and strconv.Itoa at this program. Conditions: the texts' lengths; a separator of one byte; the table of tens holds what it should. -/
import Derived.Test.YtfninflnngpchaaGreatDoorLxzMod88
import Derived.Shelf.LaysM
import Derived.Shelf.Strings.Split
import Derived.Shelf.Strings.SlTrimAscii
import Derived.Shelf.Strconv.Atoi
import Derived.Shelf.Strconv.Itoa3
open Go.Proofs.Tryz
set_option linter.unusedVariables false
set_option linter.unusedSimpArgs false
namespace Go.Proofs.YtfninflnngpchaaGreatDoor
def Ys:Shelf.Ren where
 f := fun x => match x with
   | 221=>31
   | 268=>64
   | 138=>65
   | 143=>66
   | 195=>113
   | 197=>114
   | 218=>115
   | 219=>116
   | 260=>160
   | 217=>161
   | 225=>162
   | 224=>163
   | 267=>164
   | 266=>207
   | 314=>208
   | n=>n
 t := fun x => match x with
   | 0=>0
   | 3=>3
   | 4=>4
   | 5=>5
   | 9=>9
   | 21=>21
   | 31=>39
   | 46=>189
   | 51=>233
   | 105=>154
   | 119=>234
   | 138=>236
   | 139=>237
   | 146=>238
   | n=>n
 g := fun x => match x with
   | 1=>0
   | 3=>1
   | 4=>2
   | n=>n
theorem OV:Lays.n221 Tryz.prog Ys where
 mixed:=by kernel_rfl
 f138:=by kernel_rfl
 f143:=by kernel_rfl
 f195:=by kernel_rfl
 f197:=by kernel_rfl
 f217:=by kernel_rfl
 f218:=by kernel_rfl
 f219:=by kernel_rfl
 f221:=by kernel_rfl
 f224:=by kernel_rfl
 f225:=by kernel_rfl
 f260:=by kernel_rfl
 f266:=by kernel_rfl
 f267:=by kernel_rfl
 f268:=by kernel_rfl
 f314:=by kernel_rfl
 t0:=Tryz.underlying0
 a0:=Tryz.isAgg0
 z0:=Tryz.sizeOf0
 v0:=Tryz.zeroValue0
 t3:=Tryz.underlying3
 a3:=Tryz.isAgg3
 z3:=Tryz.sizeOf3
 v3:=Tryz.zeroValue3
 t4:=Tryz.underlying4
 a4:=Tryz.isAgg4
 z4:=Tryz.sizeOf4
 v4:=Tryz.zeroValue4
 t5:=Tryz.underlying5
 a5:=Tryz.isAgg5
 z5:=Tryz.sizeOf5
 v5:=Tryz.zeroValue5
 t9:=Tryz.underlying9
 a9:=Tryz.isAgg9
 z9:=Tryz.sizeOf9
 v9:=Tryz.zeroValue9
 t21:=Tryz.underlying21
 a21:=Tryz.isAgg21
 z21:=Tryz.sizeOf21
 v21:=Tryz.zeroValue21
 t31:=Tryz.underlying39
 a31:=Tryz.isAgg39
 z31:=Tryz.sizeOf39
 v31:=Tryz.zeroValue39
 t46:=Tryz.underlying189
 a46:=Tryz.isAgg189
 z46:=Tryz.sizeOf189
 v46:=Tryz.zeroValue189
 t51:=Tryz.underlying233
 a51:=Tryz.isAgg233
 z51:=Tryz.sizeOf233
 v51:=Tryz.zeroValue233
 t105:=Tryz.underlying154
 a105:=Tryz.isAgg154
 z105:=Tryz.sizeOf154
 v105:=Tryz.zeroValue154
 t119:=Tryz.underlying234
 a119:=Tryz.isAgg234
 z119:=Tryz.sizeOf234
 t138:=Tryz.underlying236
 a138:=Tryz.isAgg236
 z138:=Tryz.sizeOf236
 v138:=Tryz.zeroValue236
 t139:=Tryz.underlying237
 a139:=Tryz.isAgg237
 z139:=Tryz.sizeOf237
 v139:=Tryz.zeroValue237
 t146:=Tryz.underlying238
 a146:=Tryz.isAgg238
 z146:=Tryz.sizeOf238
 v146:=Tryz.zeroValue238
 g1:=by kernel_rfl
 g3:=by kernel_rfl
 g4:=by kernel_rfl
def Yt:Shelf.Ren where
 f := fun x => match x with
   | 219=>116
   | 217=>161
   | 225=>162
   | 224=>163
   | 267=>164
   | 266=>207
   | 314=>208
   | n=>n
 t := fun x => match x with
   | 3=>3
   | 4=>4
   | 5=>5
   | 9=>9
   | 46=>189
   | 51=>233
   | 146=>238
   | n=>n
 g := fun x => match x with
   | 1=>0
   | n=>n
theorem W3:Lays.n219 Tryz.prog Yt where
 mixed:=by kernel_rfl
 f217:=by kernel_rfl
 f219:=by kernel_rfl
 f224:=by kernel_rfl
 f225:=by kernel_rfl
 f266:=by kernel_rfl
 f267:=by kernel_rfl
 f314:=by kernel_rfl
 t3:=Tryz.underlying3
 a3:=Tryz.isAgg3
 z3:=Tryz.sizeOf3
 v3:=Tryz.zeroValue3
 t4:=Tryz.underlying4
 a4:=Tryz.isAgg4
 z4:=Tryz.sizeOf4
 v4:=Tryz.zeroValue4
 t5:=Tryz.underlying5
 a5:=Tryz.isAgg5
 z5:=Tryz.sizeOf5
 v5:=Tryz.zeroValue5
 t9:=Tryz.underlying9
 a9:=Tryz.isAgg9
 z9:=Tryz.sizeOf9
 v9:=Tryz.zeroValue9
 t46:=Tryz.underlying189
 a46:=Tryz.isAgg189
 z46:=Tryz.sizeOf189
 v46:=Tryz.zeroValue189
 t51:=Tryz.underlying233
 a51:=Tryz.isAgg233
 z51:=Tryz.sizeOf233
 v51:=Tryz.zeroValue233
 t146:=Tryz.underlying238
 a146:=Tryz.isAgg238
 z146:=Tryz.sizeOf238
 v146:=Tryz.zeroValue238
 g1:=by kernel_rfl
def Yu:Shelf.Ren where
 f := fun x => match x with
   | 160=>77
   | 232=>132
   | 231=>131
   | 227=>133
   | 234=>135
   | 233=>134
   | 236=>137
   | 235=>136
   | 228=>179
   | 271=>181
   | 151=>180
   | 197=>114
   | 120=>214
   | 152=>213
   | 260=>160
   | 137=>228
   | 119=>229
   | 224=>163
   | 225=>162
   | 217=>161
   | 266=>207
   | n=>n
 t := fun x => match x with
   | 0=>0
   | 3=>3
   | 4=>4
   | 5=>5
   | 9=>9
   | 21=>21
   | 46=>189
   | 105=>154
   | 116=>168
   | 117=>169
   | 119=>234
   | 124=>172
   | 138=>236
   | 139=>237
   | n=>n
 g := fun x => match x with
   | 3=>1
   | 4=>2
   | n=>n
theorem W4:Lays.n160 Tryz.prog Yu where
 mixed:=by kernel_rfl
 f119:=by kernel_rfl
 f120:=by kernel_rfl
 f137:=by kernel_rfl
 f151:=by kernel_rfl
 f152:=by kernel_rfl
 f160:=by kernel_rfl
 f197:=by kernel_rfl
 f217:=by kernel_rfl
 f224:=by kernel_rfl
 f225:=by kernel_rfl
 f227:=by kernel_rfl
 f228:=by kernel_rfl
 f231:=by kernel_rfl
 f232:=by kernel_rfl
 f233:=by kernel_rfl
 f234:=by kernel_rfl
 f235:=by kernel_rfl
 f236:=by kernel_rfl
 f260:=by kernel_rfl
 f266:=by kernel_rfl
 f271:=by kernel_rfl
 t0:=Tryz.underlying0
 a0:=Tryz.isAgg0
 z0:=Tryz.sizeOf0
 v0:=Tryz.zeroValue0
 t3:=Tryz.underlying3
 a3:=Tryz.isAgg3
 z3:=Tryz.sizeOf3
 v3:=Tryz.zeroValue3
 t4:=Tryz.underlying4
 a4:=Tryz.isAgg4
 z4:=Tryz.sizeOf4
 v4:=Tryz.zeroValue4
 t5:=Tryz.underlying5
 a5:=Tryz.isAgg5
 z5:=Tryz.sizeOf5
 v5:=Tryz.zeroValue5
 t9:=Tryz.underlying9
 a9:=Tryz.isAgg9
 z9:=Tryz.sizeOf9
 v9:=Tryz.zeroValue9
 t21:=Tryz.underlying21
 a21:=Tryz.isAgg21
 z21:=Tryz.sizeOf21
 v21:=Tryz.zeroValue21
 t46:=Tryz.underlying189
 a46:=Tryz.isAgg189
 z46:=Tryz.sizeOf189
 v46:=Tryz.zeroValue189
 t105:=Tryz.underlying154
 a105:=Tryz.isAgg154
 z105:=Tryz.sizeOf154
 v105:=Tryz.zeroValue154
 t116:=Tryz.underlying168
 a116:=Tryz.isAgg168
 z116:=Tryz.sizeOf168
 t117:=Tryz.underlying169
 a117:=Tryz.isAgg169
 z117:=Tryz.sizeOf169
 v117:=Tryz.zeroValue169
 t119:=Tryz.underlying234
 a119:=Tryz.isAgg234
 z119:=Tryz.sizeOf234
 t124:=Tryz.underlying172
 a124:=Tryz.isAgg172
 z124:=Tryz.sizeOf172
 v124:=Tryz.zeroValue172
 t138:=Tryz.underlying236
 a138:=Tryz.isAgg236
 z138:=Tryz.sizeOf236
 v138:=Tryz.zeroValue236
 t139:=Tryz.underlying237
 a139:=Tryz.isAgg237
 z139:=Tryz.sizeOf237
 v139:=Tryz.zeroValue237
 g3:=by kernel_rfl
 g4:=by kernel_rfl
def Yv:Shelf.Ren where
 f := fun x => match x with
   | 172=>78
   | 244=>138
   | 245=>139
   | 247=>182
   | 279=>183
   | 280=>184
   | 281=>185
   | 282=>186
   | 287=>215
   | 316=>216
   | 171=>37
   | 205=>217
   | 321=>230
   | 322=>231
   | 243=>81
   | 246=>142
   | 283=>188
   | 284=>189
   | 285=>190
   | 286=>191
   | 129=>206
   | 317=>218
   | 318=>219
   | 319=>220
   | 320=>221
   | 337=>232
   | 338=>233
   | n=>n
 t := fun x => match x with
   | 0=>0
   | 2=>2
   | 3=>3
   | 4=>4
   | 5=>5
   | 9=>9
   | 20=>20
   | 21=>21
   | 37=>50
   | 46=>189
   | 51=>233
   | 53=>213
   | 75=>119
   | 76=>120
   | 80=>127
   | 85=>207
   | 127=>176
   | 143=>260
   | 145=>262
   | 167=>206
   | 168=>209
   | 171=>212
   | 173=>216
   | 175=>243
   | 210=>246
   | 212=>249
   | 213=>250
   | 232=>267
   | 233=>268
   | n=>n
 g := fun x => match x with
   | 15=>3
   | 16=>4
   | 17=>5
   | 18=>6
   | 19=>7
   | n=>n
theorem W5:Lays.n172 Tryz.prog Yv where
 mixed:=by kernel_rfl
 f129:=by kernel_rfl
 f171:=by kernel_rfl
 f172:=by kernel_rfl
 f205:=by kernel_rfl
 f243:=by kernel_rfl
 f244:=by kernel_rfl
 f245:=by kernel_rfl
 f246:=by kernel_rfl
 f247:=by kernel_rfl
 f279:=by kernel_rfl
 f280:=by kernel_rfl
 f281:=by kernel_rfl
 f282:=by kernel_rfl
 f283:=by kernel_rfl
 f284:=by kernel_rfl
 f285:=by kernel_rfl
 f286:=by kernel_rfl
 f287:=by kernel_rfl
 f316:=by kernel_rfl
 f317:=by kernel_rfl
 f318:=by kernel_rfl
 f319:=by kernel_rfl
 f320:=by kernel_rfl
 f321:=by kernel_rfl
 f322:=by kernel_rfl
 f337:=by kernel_rfl
 f338:=by kernel_rfl
 t0:=Tryz.underlying0
 a0:=Tryz.isAgg0
 z0:=Tryz.sizeOf0
 v0:=Tryz.zeroValue0
 t2:=Tryz.underlying2
 a2:=Tryz.isAgg2
 z2:=Tryz.sizeOf2
 v2:=Tryz.zeroValue2
 t3:=Tryz.underlying3
 a3:=Tryz.isAgg3
 z3:=Tryz.sizeOf3
 v3:=Tryz.zeroValue3
 t4:=Tryz.underlying4
 a4:=Tryz.isAgg4
 z4:=Tryz.sizeOf4
 v4:=Tryz.zeroValue4
 t5:=Tryz.underlying5
 a5:=Tryz.isAgg5
 z5:=Tryz.sizeOf5
 v5:=Tryz.zeroValue5
 t9:=Tryz.underlying9
 a9:=Tryz.isAgg9
 z9:=Tryz.sizeOf9
 v9:=Tryz.zeroValue9
 t20:=Tryz.underlying20
 a20:=Tryz.isAgg20
 z20:=Tryz.sizeOf20
 v20:=Tryz.zeroValue20
 t21:=Tryz.underlying21
 a21:=Tryz.isAgg21
 z21:=Tryz.sizeOf21
 v21:=Tryz.zeroValue21
 t37:=Tryz.underlying50
 a37:=Tryz.isAgg50
 z37:=Tryz.sizeOf50
 v37:=Tryz.zeroValue50
 t46:=Tryz.underlying189
 a46:=Tryz.isAgg189
 z46:=Tryz.sizeOf189
 v46:=Tryz.zeroValue189
 t51:=Tryz.underlying233
 a51:=Tryz.isAgg233
 z51:=Tryz.sizeOf233
 v51:=Tryz.zeroValue233
 t53:=Tryz.underlying213
 a53:=Tryz.isAgg213
 z53:=Tryz.sizeOf213
 v53:=Tryz.zeroValue213
 t75:=Tryz.underlying119
 a75:=Tryz.isAgg119
 z75:=Tryz.sizeOf119
 v75:=Tryz.zeroValue119
 t76:=Tryz.underlying120
 a76:=Tryz.isAgg120
 z76:=Tryz.sizeOf120
 v76:=Tryz.zeroValue120
 t85:=Tryz.underlying207
 a85:=Tryz.isAgg207
 z85:=Tryz.sizeOf207
 v85:=Tryz.zeroValue207
 t127:=Tryz.underlying176
 a127:=Tryz.isAgg176
 z127:=Tryz.sizeOf176
 v127:=Tryz.zeroValue176
 t143:=Tryz.underlying260
 a143:=Tryz.isAgg260
 z143:=Tryz.sizeOf260
 v143:=Tryz.zeroValue260
 t145:=Tryz.underlying262
 a145:=Tryz.isAgg262
 z145:=Tryz.sizeOf262
 v145:=Tryz.zeroValue262
 t167:=Tryz.underlying206
 a167:=Tryz.isAgg206
 z167:=Tryz.sizeOf206
 v167:=Tryz.zeroValue206
 t168:=Tryz.underlying209
 a168:=Tryz.isAgg209
 z168:=Tryz.sizeOf209
 v168:=Tryz.zeroValue209
 t171:=Tryz.underlying212
 a171:=Tryz.isAgg212
 z171:=Tryz.sizeOf212
 v171:=Tryz.zeroValue212
 t173:=Tryz.underlying216
 a173:=Tryz.isAgg216
 z173:=Tryz.sizeOf216
 v173:=Tryz.zeroValue216
 t175:=Tryz.underlying243
 a175:=Tryz.isAgg243
 z175:=Tryz.sizeOf243
 v175:=Tryz.zeroValue243
 t210:=Tryz.underlying246
 a210:=Tryz.isAgg246
 z210:=Tryz.sizeOf246
 v210:=Tryz.zeroValue246
 t212:=Tryz.underlying249
 a212:=Tryz.isAgg249
 z212:=Tryz.sizeOf249
 v212:=Tryz.zeroValue249
 t213:=Tryz.underlying250
 a213:=Tryz.isAgg250
 z213:=Tryz.sizeOf250
 t232:=Tryz.underlying267
 a232:=Tryz.isAgg267
 z232:=Tryz.sizeOf267
 v232:=Tryz.zeroValue267
 t233:=Tryz.underlying268
 a233:=Tryz.isAgg268
 z233:=Tryz.sizeOf268
 v233:=Tryz.zeroValue268
 g15:=by kernel_rfl
 g16:=by kernel_rfl
 g17:=by kernel_rfl
 g18:=by kernel_rfl
 g19:=by kernel_rfl
def Yw:Shelf.Ren where
 f := fun x => match x with
   | 171=>37
   | 243=>81
   | 246=>142
   | 283=>188
   | 284=>189
   | 285=>190
   | 286=>191
   | 129=>206
   | 317=>218
   | 318=>219
   | 319=>220
   | 320=>221
   | 337=>232
   | 338=>233
   | n=>n
 t := fun x => match x with
   | 0=>0
   | 2=>2
   | 3=>3
   | 4=>4
   | 5=>5
   | 9=>9
   | 20=>20
   | 37=>50
   | 46=>189
   | 51=>233
   | 53=>213
   | 171=>212
   | 173=>216
   | 212=>249
   | 213=>250
   | 232=>267
   | 233=>268
   | n=>n
 g := fun x => match x with
   | 17=>5
   | 18=>6
   | 19=>7
   | n=>n
theorem W6:LaysM.n171 Tryz.prog Yw where
 mixed:=by kernel_rfl
 f129:=by kernel_rfl
 f171:=by kernel_rfl
 f243:=by kernel_rfl
 f246:=by kernel_rfl
 f283:=by kernel_rfl
 f284:=by kernel_rfl
 f285:=by kernel_rfl
 f286:=by kernel_rfl
 f317:=by kernel_rfl
 f318:=by kernel_rfl
 f319:=by kernel_rfl
 f320:=by kernel_rfl
 f337:=by kernel_rfl
 f338:=by kernel_rfl
 t0:=Tryz.underlying0
 a0:=Tryz.isAgg0
 z0:=Tryz.sizeOf0
 v0:=Tryz.zeroValue0
 t2:=Tryz.underlying2
 a2:=Tryz.isAgg2
 z2:=Tryz.sizeOf2
 v2:=Tryz.zeroValue2
 t3:=Tryz.underlying3
 a3:=Tryz.isAgg3
 z3:=Tryz.sizeOf3
 v3:=Tryz.zeroValue3
 t4:=Tryz.underlying4
 a4:=Tryz.isAgg4
 z4:=Tryz.sizeOf4
 v4:=Tryz.zeroValue4
 t5:=Tryz.underlying5
 a5:=Tryz.isAgg5
 z5:=Tryz.sizeOf5
 v5:=Tryz.zeroValue5
 t9:=Tryz.underlying9
 a9:=Tryz.isAgg9
 z9:=Tryz.sizeOf9
 v9:=Tryz.zeroValue9
 t20:=Tryz.underlying20
 a20:=Tryz.isAgg20
 z20:=Tryz.sizeOf20
 v20:=Tryz.zeroValue20
 t37:=Tryz.underlying50
 a37:=Tryz.isAgg50
 z37:=Tryz.sizeOf50
 v37:=Tryz.zeroValue50
 t46:=Tryz.underlying189
 a46:=Tryz.isAgg189
 z46:=Tryz.sizeOf189
 v46:=Tryz.zeroValue189
 t51:=Tryz.underlying233
 a51:=Tryz.isAgg233
 z51:=Tryz.sizeOf233
 v51:=Tryz.zeroValue233
 t53:=Tryz.underlying213
 a53:=Tryz.isAgg213
 z53:=Tryz.sizeOf213
 v53:=Tryz.zeroValue213
 t171:=Tryz.underlying212
 a171:=Tryz.isAgg212
 z171:=Tryz.sizeOf212
 v171:=Tryz.zeroValue212
 t173:=Tryz.underlying216
 a173:=Tryz.isAgg216
 z173:=Tryz.sizeOf216
 v173:=Tryz.zeroValue216
 t212:=Tryz.underlying249
 a212:=Tryz.isAgg249
 z212:=Tryz.sizeOf249
 v212:=Tryz.zeroValue249
 t213:=Tryz.underlying250
 a213:=Tryz.isAgg250
 z213:=Tryz.sizeOf250
 t232:=Tryz.underlying267
 a232:=Tryz.isAgg267
 z232:=Tryz.sizeOf267
 v232:=Tryz.zeroValue267
 t233:=Tryz.underlying268
 a233:=Tryz.isAgg268
 z233:=Tryz.sizeOf268
 v233:=Tryz.zeroValue268
 g17:=by kernel_rfl
 g18:=by kernel_rfl
 g19:=by kernel_rfl
 i0:=by kernel_rfl
 i2:=by kernel_rfl
 i3:=by kernel_rfl
 i4:=by kernel_rfl
 i5:=by kernel_rfl
 i9:=by kernel_rfl
 i20:=by kernel_rfl
 i37:=by kernel_rfl
 i46:=by kernel_rfl
 i51:=by kernel_rfl
 i53:=by kernel_rfl
 i171:=by kernel_rfl
 i173:=by kernel_rfl
 i212:=by kernel_rfl
 i232:=by kernel_rfl
 i233:=by kernel_rfl
 m17:=by kernel_rfl
 m18:=by kernel_rfl
 m19:=by kernel_rfl
theorem VM {sep:Str}(h:sep.length=1):bs sep=⟨#[sep.headD 0]⟩∧sep=[sep.headD 0]:=by
 match sep,h with
 | [c],_=>exact ⟨rfl,rfl⟩
theorem S0 {w w':World}(h:Go.RowKit.Below w.heap.size w w'):Ext w w':=⟨h.os,h.tape,h.output,h.size,fun k hk _=>h.block k hk⟩
theorem S1 (w:World) (e:TypeId) (s:ByteArray):Ext w (Lib.bytesWorld w e s):=⟨rfl,rfl,rfl,by rw [Lib.bytesWorld_size]; omega,fun k hk _=>Lib.bytesWorld_at_old w e s k hk⟩
theorem VN (w:World) (k:Nat) (os:Array Obj):Ext w (Go.Sort.grow (w.drewN k) os):=⟨rfl,rfl,rfl,by simp [Go.Sort.grow,World.drewN],fun i hi _=>by
 show (w.heap++os)[i]? = w.heap[i]?
 rw [Array.getElem?_append_left hi]⟩
variable {w:World} {F:Nat→Prop}
set_option maxHeartbeats 1000000 in
theorem Im (s sep:Str) (sv n:Int){w:World}{F:Nat→Prop}(p0:s.length≤1000000) (p1:sep.length=1) (p2:sv=0) (p3:n = -1) :
 Calls Tryz.prog 31 [.string (bs s),.string (bs sep),.int .i64 sv,.int .i64 n].toArray w (Am fun rv w'=>VL (ge w.heap.size) w' (AZ s (sep.headD 0):List Txt) rv∧Ext w w'):=by
 subst p2 p3
 obtain ⟨e1,e2⟩:=VM p1
 rw [e1]
 generalize sep.headD 0=c at *
 have hc:Lib.countB (bs s) ⟨#[c]⟩=Lib.count s [c]:=by
  unfold Lib.countB
  rw [Eo]
 have hsz:=Ep s
 have hle:=Lib.countB_le ⟨#[c]⟩ (Nat.le_refl 1) (bs s).size (bs s) (Nat.le_refl _)
 have hlen:=Lib.splitB_all ⟨#[c]⟩ (Nat.le_refl 1) 0 _ (bs s) rfl
 have q:=Any.strings_genSplit_core OV AA (bs s) ⟨#[c]⟩ 0 (-1) (Lib.countB (bs s) ⟨#[c]⟩ + 1) w AB (Nat.le_refl 1) (Nat.zero_le _)
  (fun x cs _=>by
   refine (Any.strings_Index_one { OV with } x c _).mono ?_
   rintro e w' ⟨h1,h2⟩
   refine ⟨?_,h2⟩
   rw [h1]
   show _=Ending.returned (Value.int .i64 (Lib.index x.data.toList [c]))
   rw [Lib.index_one])
  (by
   refine (Any.strings_Count_one { OV with } (bs s) c w).mono ?_
   rintro e w' ⟨h1,h2⟩
   refine ⟨?_,h2⟩
   rw [h1,hc,Eo,Lib.count_one]
   rfl)
  AE AE (by rw [if_pos AE]; omega)
 rw [Nat.add_sub_cancel,hlen] at q
 have e3:Lib.cellsOf (Lib.splitB ⟨#[c]⟩ 0 (Lib.countB (bs s) ⟨#[c]⟩) (bs s)) (Lib.countB (bs s) ⟨#[c]⟩ + 1)=((Lib.splitB ⟨#[c]⟩ 0 (Lib.countB (bs s) ⟨#[c]⟩) (bs s)).map Value.string).toArray:=by rw [← hlen]; exact Lib.cellsOf_full _
 rw [e3] at q
 have hd:(Lib.splitB ⟨#[c]⟩ 0 (Lib.countB (bs s) ⟨#[c]⟩) (bs s)).map (·.data.toList)=F1 c s:=by
  rw [Lib.splitB_data,hc,Eo]
  exact Wm c s
 generalize Lib.splitB ⟨#[c]⟩ 0 (Lib.countB (bs s) ⟨#[c]⟩) (bs s)=B at *
 have hcut:AZ s c=B.map (fun x=>⟨x.data.toList⟩):=by
  rw [OK,← hd,List.map_map]
  rfl
 have hl:(AZ s c).length=B.length:=by rw [hcut,List.length_map]
 refine q.mono ?_
 rintro e w' ⟨rfl,rfl⟩
 refine ⟨_,rfl,⟨some ⟨w.heap.size,0,none⟩,Lib.countB (bs s) ⟨#[c]⟩ + 1,by rw [hl,hlen],?_⟩,Ext.alloc _ _⟩
 rw [hl,hlen]
 refine ⟨by rw [hl,hlen],Nat.le_refl _,by unfold maxLen; omega,fun _=>rfl,fun _=>Nat.le_refl _,fun i x hx=>?_⟩
 rw [hcut,List.getElem?_map] at hx
 cases hb:B[i]? with
 | none=>rw [hb] at hx; cases hx
 | some y =>
   rw [hb] at hx
   simp only [Option.map_some,Option.some.injEq] at hx
   subst hx
   refine ⟨_,rfl,fun k u hu=>?_⟩
   have hk:k=0:=by
    cases k with
    | zero=>rfl
    | succ k=>simp at hu
   subst hk
   simp only [List.getElem?_cons_zero,Option.some.injEq] at hu
   subst hu
   have ey:bs y.data.toList=y:=Lib.mk_data y
   rw [ey]
   have e1:Rep.sz Txt=1:=rfl
   rw [e1]
   have e4:(⟨blk (some ⟨w.heap.size,0,none⟩),off (some ⟨w.heap.size,0,none⟩)+i * 1,none⟩:Addr).add 0=⟨w.heap.size,i,none⟩:=by simp [blk,off,Addr.add]
   show World.cell? _ _=_
   rw [show (0:Nat)=0 from rfl]
   first | (rw [e4,World.cell?_alloc_new]; simp [hb]) | (simp [blk,off,hb]; done)
theorem E6 (s sep:Str){w:World}{F:Nat→Prop}(p1:sep.length=1) :
 Calls Tryz.prog 116 [.string (bs s),.string (bs sep)].toArray w (Am fun rv w'=>rv=.int .i64 (Lib.indexByte s (sep.headD 0))∧Ext w w'):=by
 obtain ⟨e1,e2⟩:=VM p1
 rw [e1]
 refine (Any.stringslite_Index_one W3 (bs s) (sep.headD 0) w).mono ?_
 rintro e w' ⟨rfl,rfl⟩
 rw [Eo]
 exact ⟨_,rfl,rfl,Ext.refl _⟩
theorem Hf (s set_:Str){w:World}{F:Nat→Prop}(p0:s.length≤1000000) (p1:set_=FZ) :
 Calls Tryz.prog 77 [.string (bs s),.string (bs set_)].toArray w (Am fun rv w'=>rv=.string (bs (Lib.trimS s set_))∧Ext w w'):=by
 subst p1
 refine (Any.strings_Trim_laid W4 AA (bs s) (bs FZ) w (by rw [Ep]; omega) (by rw [Ep]; decide) (by rw [Eo]; exact ascii_of_all AE)).mono ?_
 rintro e w' ⟨rfl,hw⟩
 rw [Eo,Eo]
 exact ⟨_,rfl,rfl,S0 hw⟩
theorem Hg (s:Str){w:World}{F:Nat→Prop}(p0:Lib.atoi s=some (Fa s)) (p1:s.length≤18) :
 Calls Tryz.prog 78 [.string (bs s)].toArray w (Am fun rv w'=>rv=.tuple #[.int .i64 (Fa s),.nilIface]∧Ext w w'):=by
 refine (Any.strconv_Atoi W5 (bs s) (Fa s) (by rw [Ep]; exact p1) (by rw [Eo]; exact p0) w).mono ?_
 rintro e w' ⟨rfl,t,rfl⟩
 exact ⟨_,rfl,rfl,S1 _ _ _⟩
structure Tab where
 z:Nat
instance:Rep Tab where
 sz:=1
 rep w F x cs:=cs=[.int .u64 1]∧F 5∧w.var? Tryz.prog "internal/strconv.uint64pow10" = some (Lib.pow10Tab.map fun z=>Value.int .u64 z).toArray∧5< w.heap.size
 len:=by rintro w F x cs ⟨rfl,_⟩; rfl
 pos:=by decide
 flat:=by rintro w F x cs ⟨rfl,_⟩ v hv; simp at hv; subst hv; rfl
 frame:=by
  rintro w w' F F' x cs ⟨rfl,hF,hv,hs⟩ hf
  obtain ⟨h1,h2⟩:=hf _ hs hF
  refine ⟨rfl,h1,?_,?_⟩
  ·rw [← hv]
   unfold World.var?
   have hg:Tryz.prog.globalNamed "internal/strconv.uint64pow10" = some 5:=by kernel_rfl
   rw [hg]
   simp only [Option.bind_some]
   rw [h2]
  ·rcases Nat.lt_or_ge 5 w'.heap.size with h | h
   ·exact h
   ·rw [Array.getElem?_eq_none h,Array.getElem?_eq_getElem hs] at h2
    cases h2
def Em:List Tab:=[⟨0⟩]
theorem VP {a:Option Addr}(h:RepS w F a Em.length Em.length Em):Lib.TabIs Tryz.prog w "internal/strconv.uint64pow10" .u64 Lib.pow10Tab:=by
 obtain ⟨cs,hr,_⟩:=h.elem 0 ⟨0⟩ rfl
 exact hr.2.2.1
theorem Fh (n:Int) (htab:RepS w F (some ⟨5,0,none⟩) Em.length Em.length Em) (p0:-99≤n∧n≤99) :
 Calls Tryz.prog 37 [.int .i64 n].toArray w (Am fun rv w'=>rv=.string (bs (Bs n))∧Ext w w'):=by
 refine (Any.strconv_Itoa W6 n AB AB w (VP htab)).mono ?_
 rintro e w' ⟨rfl,k,os,rfl⟩
 rw [YZ p0]
 exact ⟨_,rfl,rfl,VN _ _ _⟩
end Go.Proofs.YtfninflnngpchaaGreatDoor
namespace Go.Proofs.YtfninflnngpchaaGreatDoor
set_option maxRecDepth 100000
set_option maxHeartbeats 4000000
variable {w:World} {F:Nat→Prop}
theorem Dt (s:Str) (sep:Str){F:Nat→Prop}  (p0:s.length≤1000000) (p1:sep.length=1):Calls Tryz.prog 12 [.string (bs s),.string (bs sep)].toArray w (Am fun rv w'=>VL (ge w.heap.size) w' ((AZ s (sep.headD 0)):List Txt) rv∧Ext w w'):=by
 refine goT func12 ?_
 have Z:=St.i0 F w
 exact .s<|.g<|.r 1<|.d<|.s<|.g<|.r 2<|RG.CL (Im s sep 0 (-1) p0 p1 rfl rfl (F:=all)) Z fun aa ab w Z=>.r 1<|.d<|T.Rt func12 results12 ⟨Z.rL 0 (AZ s (sep.headD 0)) AF,Z.xt⟩
theorem Fi (s:Str) (sep:Str){F:Nat→Prop}  (p0:s.length≤1000000) (p1:sep.length=1):Calls Tryz.prog 117 [.string (bs s),.string (bs sep)].toArray w (Am fun rv w'=>rv=.tuple #[.string (bs ((Cu s (sep.headD 0)).1)),.string (bs ((Cu s (sep.headD 0)).2.1)),.bool ((Cu s (sep.headD 0)).2.2)]∧Ext w w'):=by
 refine goT func117 ?_
 have Z:=St.i0 F w
 exact .s<|.g<|.r 3<|.d<|.s<|.s<|.g<|.r 2<|RG.C0 (E6 s sep p1 (F:=all)) Z fun w Z=>.r 1<|.d<|.s<|.g<|.r 1<|.bp (Lib.indexByte s (sep.headD 0)≥0) (fun ab=>.d<|.ct<|.s<|T.Gd 10 Z fun w Z=>.r [0,1]<|GA.H3 (i:=2) (t:=9) (lo:=none) (hi:=some (vI (Lib.indexByte s (sep.headD 0)))) (s:=s) AA 0 ((Lib.indexByte s (sep.headD 0)).toNat) AA AA (.inl ⟨rfl,rfl⟩) (.inr ⟨_,_,rfl,by have q1:=MM s (sep.headD 0); omega⟩) (by have q1:=MM s (sep.headD 0); omega) (by have q1:=MM s (sep.headD 0); omega)<|.r [3,4,5]<|GA.eqv (i:=6) (v:=vI (sep.length:Int)) AA (CZ sep)<|GA.int (i:=7) (Lib.indexByte s (sep.headD 0)+(sep.length:Int)) AA (by have q1:=MM s (sep.headD 0); omega)<|GA.H3 (i:=8) (t:=9) (lo:=some (vI (Lib.indexByte s (sep.headD 0)+(sep.length:Int)))) (hi:=none) (s:=s) AA ((Lib.indexByte s (sep.headD 0)+(sep.length:Int)).toNat) s.length AA AA (.inr ⟨_,_,rfl,by have q1:=MM s (sep.headD 0); omega⟩) (.inl ⟨rfl,rfl⟩) (by have q1:=MM s (sep.headD 0); omega) (by have q1:=MM s (sep.headD 0); omega)<|.r [9]<|GA.Dn Z fun w Z=>.r 2<|.d<|T.r3 func117 results117 (.t (.string (bs ((s.take ((Lib.indexByte s (sep.headD 0)).toNat)).drop 0)))) (.t (.string (bs ((s.take s.length).drop ((Lib.indexByte s (sep.headD 0)+(sep.length:Int)).toNat))))) (.t (.bool true)) ⟨(Kk (congrArg (fun s=>Value.string (bs s)) (by rw [Qe p1 ‹_›])) (congrArg (fun s=>Value.string (bs s)) (by rw [Qe p1 ‹_›])) (AG (by rw [Qe p1 ‹_›]))),Z.xt⟩) fun ab=>.d<|.cf<|.sk<|.s<|.g<|.r 4<|.d<|T.r3 func117 results117 (.t (vT s)) (.t (.string (bs []))) (.t (.bool false)) ⟨(Kk (congrArg (fun s=>Value.string (bs s)) (by rw [Qf ‹_›])) (congrArg (fun s=>Value.string (bs s)) (by rw [Qf ‹_›])) (AG (by rw [Qf ‹_›]))),Z.xt⟩
theorem IK (s:Str) (sep:Str){F:Nat→Prop}  (p0:s.length≤1000000) (p1:sep.length=1):Calls Tryz.prog 67 [.string (bs s),.string (bs sep)].toArray w (Am fun rv w'=>rv=.tuple #[.string (bs ((Cu s (sep.headD 0)).1)),.string (bs ((Cu s (sep.headD 0)).2.1)),.bool ((Cu s (sep.headD 0)).2.2)]∧Ext w w'):=by
 refine goT func67 ?_
 have Z:=St.i0 F w
 exact .s<|.g<|.r 3<|.d<|.s<|.g<|.r 2<|RG.C0 (Fi s sep p0 p1 (F:=all)) Z fun w Z=>.r 6<|.d<|T.r3 func67 results67 (.t (.string (bs ((Cu s (sep.headD 0)).1)))) (.t (.string (bs ((Cu s (sep.headD 0)).2.1)))) (.t (.bool ((Cu s (sep.headD 0)).2.2))) ⟨(Kk (congrArg (fun s=>Value.string (bs s)) AF) (congrArg (fun s=>Value.string (bs s)) AF) (AG AF)),Z.xt⟩
theorem EV (s:Str) (p:Str){F:Nat→Prop}   : Calls Tryz.prog 178 [.string (bs s),.string (bs p)].toArray w (Am fun rv w'=>rv=.bool (K0 s p)∧Ext w w'):=by
 refine goT func178 ?_
 have Z:=St.i0 F w
 exact .s<|.g<|.r 1<|.d<|.s<|.g<|.r 1<|RG.eqv (v:=vI (s.length:Int)) AA (CZ s)<|.r 1<|RG.eqv (v:=vI (p.length:Int)) AA (CZ p)<|.bp ((s.length:Int)≥(p.length:Int)) (fun aa=>.r 3<|RG.eqv (v:=vI (p.length:Int)) AA (CZ p)<|RG.H3 (t:=9) (lo:=none) (hi:=some (vI (p.length:Int))) (s:=s) 0 p.length AA AA (.inl ⟨rfl,rfl⟩) (.inr ⟨_,_,rfl,by omega⟩) AB AB<|.r 1<|RG.eqv (v:=.bool ((((s.take p.length).drop 0)==p))) AA (GX ((s.take p.length).drop 0) p)<|.r 2<|.d<|T.rt func178 results178 (.bool (((s.take p.length).drop 0)==p)) ⟨(AG (by exact Ur ‹_›)),Z.xt⟩) fun aa=>.r 9<|.d<|T.rt func178 results178 (.bool false) ⟨(AG (by exact Wq ‹_›)),Z.xt⟩
theorem EW (s:Str) (p:Str){F:Nat→Prop}  (p0:s.length≤1000000):Calls Tryz.prog 187 [.string (bs s),.string (bs p)].toArray w (Am fun rv w'=>rv=.bool (KH s p)∧Ext w w'):=by
 refine goT func187 ?_
 have Z:=St.i0 F w
 exact .s<|.g<|.r 1<|.d<|.s<|.g<|.r 1<|RG.eqv (v:=vI (s.length:Int)) AA (CZ s)<|.r 1<|RG.eqv (v:=vI (p.length:Int)) AA (CZ p)<|.bp ((s.length:Int)≥(p.length:Int)) (fun aa=>.r 3<|RG.eqv (v:=vI (s.length:Int)) AA (CZ s)<|.r 1<|RG.eqv (v:=vI (p.length:Int)) AA (CZ p)<|.it ((s.length:Int) - (p.length:Int))<|RG.H3 (t:=9) (lo:=some (vI ((s.length:Int) - (p.length:Int)))) (hi:=none) (s:=s) (((s.length:Int) - (p.length:Int)).toNat) s.length AA AA (.inr ⟨_,_,rfl,by omega⟩) (.inl ⟨rfl,rfl⟩) AB AB<|.r 1<|RG.eqv (v:=.bool ((((s.take s.length).drop (((s.length:Int) - (p.length:Int)).toNat))==p))) AA (GX ((s.take s.length).drop (((s.length:Int) - (p.length:Int)).toNat)) p)<|.r 2<|.d<|T.rt func187 results187 (.bool (((s.take s.length).drop (((s.length:Int) - (p.length:Int)).toNat))==p)) ⟨(AG (by exact Us ‹_›)),Z.xt⟩) fun aa=>.r 12<|.d<|T.rt func187 results187 (.bool false) ⟨(AG (by exact Wr ‹_›)),Z.xt⟩
theorem EX (s:Str) (p:Str){F:Nat→Prop}   : Calls Tryz.prog 130 [.string (bs s),.string (bs p)].toArray w (Am fun rv w'=>rv=.tuple #[.string (bs ((Bg s p).1)),.bool ((Bg s p).2)]∧Ext w w'):=by
 refine goT func130 ?_
 have Z:=St.i0 F w
 refine .s<|.g<|.r 2<|.d<|.s<|.s<|.g<|.r 2<|RG.C0 (EV s p (F:=all)) Z fun w Z=>?_
 cases aa:(K0 s p)
 ·exact .r 1<|.d<|.ct<|.s<|.g<|.r 3<|.d<|T.r2 func130 results130 (.t (vT s)) (.t (.bool false)) ⟨(Be (congrArg (fun s=>Value.string (bs s)) (by rw [Uu ‹_›])) (AG (by rw [Uu ‹_›]))),Z.xt⟩
 exact .r 1<|.d<|.cf<|.sk<|.s<|.g<|.r 2<|RG.eqv (v:=vI (p.length:Int)) AA (CZ p)<|RG.H3 (t:=9) (lo:=some (vI (p.length:Int))) (hi:=none) (s:=s) p.length s.length AA AA (.inr ⟨_,_,rfl,by omega⟩) (.inl ⟨rfl,rfl⟩) (by have q1:=Pf ‹_›; omega) (by have q1:=Pf ‹_›; omega)<|.r 2<|.d<|T.r2 func130 results130 (.t (.string (bs ((s.take s.length).drop p.length)))) (.t (.bool true)) ⟨(Be (congrArg (fun s=>Value.string (bs s)) (by rw [Ut ‹_›])) (AG (by rw [Ut ‹_›]))),Z.xt⟩
theorem H8 (s:Str) (p:Str){F:Nat→Prop}   : Calls Tryz.prog 75 [.string (bs s),.string (bs p)].toArray w (Am fun rv w'=>rv=.tuple #[.string (bs ((Bg s p).1)),.bool ((Bg s p).2)]∧Ext w w'):=by
 refine goT func75 ?_
 have Z:=St.i0 F w
 exact .s<|.g<|.r 2<|.d<|.s<|.g<|.r 2<|RG.C0 (EX s p (F:=all)) Z fun w Z=>.r 4<|.d<|T.r2 func75 results75 (.t (.string (bs ((Bg s p).1)))) (.t (.bool ((Bg s p).2))) ⟨(Be (congrArg (fun s=>Value.string (bs s)) AF) (AG AF)),Z.xt⟩
theorem EY (s:Str) (p:Str){F:Nat→Prop}  (p0:s.length≤1000000):Calls Tryz.prog 140 [.string (bs s),.string (bs p)].toArray w (Am fun rv w'=>rv=.tuple #[.string (bs ((Db s p).1)),.bool ((Db s p).2)]∧Ext w w'):=by
 refine goT func140 ?_
 have Z:=St.i0 F w
 refine .s<|.g<|.r 2<|.d<|.s<|.s<|.g<|.r 2<|RG.C0 (EW s p p0 (F:=all)) Z fun w Z=>?_
 cases ab:(KH s p)
 ·exact .r 1<|.d<|.ct<|.s<|.g<|.r 3<|.d<|T.r2 func140 results140 (.t (vT s)) (.t (.bool false)) ⟨(Be (congrArg (fun s=>Value.string (bs s)) (by rw [Uw ‹_›])) (AG (by rw [Uw ‹_›]))),Z.xt⟩
 exact .r 1<|.d<|.cf<|.sk<|.s<|.g<|.r 2<|RG.eqv (v:=vI (s.length:Int)) AA (CZ s)<|.r 1<|RG.eqv (v:=vI (p.length:Int)) AA (CZ p)<|RG.int ((s.length:Int) - (p.length:Int)) AA (by have q1:=Hc ‹_›; omega)<|RG.H3 (t:=9) (lo:=none) (hi:=some (vI ((s.length:Int) - (p.length:Int)))) (s:=s) 0 (((s.length:Int) - (p.length:Int)).toNat) AA AA (.inl ⟨rfl,rfl⟩) (.inr ⟨_,_,rfl,by have q1:=Hc ‹_›; omega⟩) (by have q1:=Hc ‹_›; omega) (by have q1:=Hc ‹_›; omega)<|.r 2<|.d<|T.r2 func140 results140 (.t (.string (bs ((s.take (((s.length:Int) - (p.length:Int)).toNat)).drop 0)))) (.t (.bool true)) ⟨(Be (congrArg (fun s=>Value.string (bs s)) (by rw [Uv ‹_›])) (AG (by rw [Uv ‹_›]))),Z.xt⟩
theorem H9 (s:Str) (p:Str){F:Nat→Prop}  (p0:s.length≤1000000):Calls Tryz.prog 79 [.string (bs s),.string (bs p)].toArray w (Am fun rv w'=>rv=.tuple #[.string (bs ((Db s p).1)),.bool ((Db s p).2)]∧Ext w w'):=by
 refine goT func79 ?_
 have Z:=St.i0 F w
 exact .s<|.g<|.r 2<|.d<|.s<|.g<|.r 2<|RG.C0 (EY s p p0 (F:=all)) Z fun w Z=>.r 4<|.d<|T.r2 func79 results79 (.t (.string (bs ((Db s p).1)))) (.t (.bool ((Db s p).2))) ⟨(Be (congrArg (fun s=>Value.string (bs s)) AF) (AG AF)),Z.xt⟩
end Go.Proofs.YtfninflnngpchaaGreatDoor
namespace Go.Proofs.YtfninflnngpchaaGreatDoor
set_option maxRecDepth 100000
set_option maxHeartbeats 4000000
variable {w:World} {F:Nat→Prop} {a1:Option Addr} {n1 c1:Nat}
theorem DF (w_:Str){F:Nat→Prop}  (p0:w_.length≤1000):Calls Tryz.prog 34 [.string (bs w_)].toArray w (Am fun rv w'=>rv=.int .i64 (BG w_)∧Ext w w'):=by
 refine goT func34 ?_
 have Z:=St.i0 F w
 refine .s<|.g<|.r 1<|.d<|.s<|.g<|.r 1<|RG.C0 (H8 w_ [45] (F:=all)) Z fun w Z=>.r 2 ?_
 cases ae:(Bg w_ [45]).2
 ·refine .r 3<|.d<|.s<|.s<|.g<|.r 1<|RG.eqv (v:=vI ((Bg w_ [45]).1.length:Int)) AA (CZ ((Bg w_ [45]).1))<|RG.C0 (Bk ((Bg w_ [45]).1.length:Int) 1 2 (F:=all)) Z fun w Z=>?_
  cases aa:(inR ((Bg w_ [45]).1.length:Int) 1 2)
  ·exact .r 6<|.d<|.ct<|.s<|.g<|.r 1<|.d<|T.rt func34 results34 (vI (-999)) ⟨(congrArg (Value.int .i64) (by exact (Pg ‹_›).symm)),Z.xt⟩
  have ag:=BW aa
  refine .r 3<|RG.C0 (Hf ((Bg w_ [45]).1) [48,49,50,51,52,53,54,55,56,57] (by have q1:=BW (by assumption:inR _ 1 2=true); omega) rfl (F:=all)) Z fun w Z=>RG.eqv (v:=.bool (!(Lib.trimS ((Bg w_ [45]).1) [48,49,50,51,52,53,54,55,56,57]==[]))) AA (S9 (Lib.trimS ((Bg w_ [45]).1) [48,49,50,51,52,53,54,55,56,57]) []) ?_
  cases ah:(Lib.trimS ((Bg w_ [45]).1) [48,49,50,51,52,53,54,55,56,57]==[])
  ·exact .r 1<|.d<|.ct<|.s<|.g<|.r 1<|.d<|T.rt func34 results34 (vI (-999)) ⟨(congrArg (Value.int .i64) (by exact (NW ‹_› ‹_›).symm)),Z.xt⟩
  exact .r 1<|.d<|.cf<|.sk<|.s<|.g<|.r 1<|RG.C0 (Hg ((Bg w_ [45]).1) (Rf ‹_› ‹_›) (by have q1:=BW (by assumption:inR _ 1 2=true); omega) (F:=all)) Z fun w Z=>.r 5<|.d<|.s<|.s<|.g<|.r 1<|.d<|.cf<|.sk<|.s<|.g<|.r 2<|.d<|T.rt func34 results34 (vI (Fa ((Bg w_ [45]).1))) ⟨(congrArg (Value.int .i64) (by exact (Yb ‹_› ‹_› ‹_›).symm)),Z.xt⟩
 refine .r 3<|.d<|.s<|.s<|.g<|.r 1<|RG.eqv (v:=vI ((Bg w_ [45]).1.length:Int)) AA (CZ ((Bg w_ [45]).1))<|RG.C0 (Bk ((Bg w_ [45]).1.length:Int) 1 2 (F:=all)) Z fun w Z=>?_
 cases ab:(inR ((Bg w_ [45]).1.length:Int) 1 2)
 ·exact .r 6<|.d<|.ct<|.s<|.g<|.r 1<|.d<|T.rt func34 results34 (vI (-999)) ⟨(congrArg (Value.int .i64) (by exact (Pg ‹_›).symm)),Z.xt⟩
 have aj:=BW ab
 refine .r 3<|RG.C0 (Hf ((Bg w_ [45]).1) [48,49,50,51,52,53,54,55,56,57] (by have q1:=BW (by assumption:inR _ 1 2=true); omega) rfl (F:=all)) Z fun w Z=>RG.eqv (v:=.bool (!(Lib.trimS ((Bg w_ [45]).1) [48,49,50,51,52,53,54,55,56,57]==[]))) AA (S9 (Lib.trimS ((Bg w_ [45]).1) [48,49,50,51,52,53,54,55,56,57]) []) ?_
 cases ak:(Lib.trimS ((Bg w_ [45]).1) [48,49,50,51,52,53,54,55,56,57]==[])
 ·exact .r 1<|.d<|.ct<|.s<|.g<|.r 1<|.d<|T.rt func34 results34 (vI (-999)) ⟨(congrArg (Value.int .i64) (by exact (NW ‹_› ‹_›).symm)),Z.xt⟩
 exact .r 1<|.d<|.cf<|.sk<|.s<|.g<|.r 1<|RG.C0 (Hg ((Bg w_ [45]).1) (Rf ‹_› ‹_›) (by have q1:=BW (by assumption:inR _ 1 2=true); omega) (F:=all)) Z fun w Z=>.r 5<|.d<|.s<|.s<|.g<|.r 1<|.d<|.ct<|.s<|.g<|.r 1<|RG.int (0 - (Fa ((Bg w_ [45]).1))) AA (by have q1:=Pd (by assumption:inR _ 1 2=true); omega)<|.r 1<|.d<|T.rt func34 results34 (vI (0 - (Fa ((Bg w_ [45]).1)))) ⟨(congrArg (Value.int .i64) (by exact (Ya ‹_› ‹_› ‹_›).symm)),Z.xt⟩
theorem JW (words:List Txt) (at_:Int) (h1:RepS w F a1 n1 c1 words) (p0:0≤at_) (p1:∀ t∈words,t.s.length≤1000):Calls Tryz.prog 35 [.slice a1 n1 c1,.int .i64 at_].toArray w (Am fun rv w'=>rv=.int .i64 ((if (at_:Int)≥(words.length:Int) then 9 else Aw words ((at_:Int).toNat)))∧Ext w w'):=by
 cases h1.len
 refine goT func35 ?_
 have Z:=(St.i0 F w).p h1
 have af:=h1.max
 refine .s<|.g<|.r 1<|.d<|.s<|.s<|.g<|.r 3<|.bp (at_≥(words.length:Int)) (fun ab=>.d<|.ct<|.s<|.g<|.r 1<|.d<|T.rt func35 results35 (vI 9) ⟨(congrArg (Value.int .i64) (by rw [if_pos ‹_›])),Z.xt⟩) fun ab=>.d<|.cf<|.sk<|.s<|.g<|.r 2<|gx words (at_.toNat) fun ac aa=>?_
 have ae:=AV aa
 exact RG.Jx 0 at_ aa Z<|Z.el 0 aa fun Z=>RG.Lh 0 0 Z<|RG.C0 (DF ac.s (p1 _ ‹_›) (F:=all)) Z fun w Z=>.r 1<|.d<|T.rt func35 results35 (vI (BG ac.s)) ⟨(congrArg (Value.int .i64) (by (rw [if_neg ‹_›,Da ‹_›]))),Z.xt⟩
theorem K1 (text_:Str){F:Nat→Prop}  (p0:text_.length≤999):Calls Tryz.prog 32 [.string (bs text_)].toArray w (Am fun rv w'=>(∃ v0,rv=.tuple #[v0,.bool ((BQ text_).2)]∧VL (ge w.heap.size) w' ((BQ text_).1:List Tag) v0)∧Ext w w'):=by
 refine goT func32 ?_
 have Z:=St.i0 F w
 refine .s<|.g<|.r 2<|.d<|.s<|.g<|RG.N0 Tag 0 Z fun ah w Z=>.r 1<|.d<|.s<|.s<|.g<|.r 1<|RG.CL (Dt text_ [44] AB rfl (F:=all)) Z fun ai aj w Z=>?_
 have ao:=Z.mf 0 (AZ text_ ([44].headD 0))
 refine .r 2<|.d<|.b 0<|T.Lp (([]:List Tag),ah,(0:Nat),(0:Nat)) (fun (out,r_out,c_out,k)=>([(0,vT text_),(4,vS r_out out.length c_out),(12,.slice ai ((AZ text_ ([44].headD 0)).length) aj),(13,vI (((AZ text_ ([44].headD 0)).length):Int)),(14,vI (k:Int))],[(0,.own 0 r_out 83 c_out out)],[],(AZ text_ ([44].headD 0)).length - k,(k≤(AZ text_ ([44].headD 0)).length)∧(out.length≤k)∧(out++((AZ text_ ([44].headD 0)).drop k).map (fun t=>KI t.s)=E5 text_))) [] Z ⟨AD,AD,AF⟩ ?_
 rintro ⟨out,r_out,c_out,k⟩ aD w Z ⟨aq,ar,ax⟩ ae
 have ay:=Z.mo 0 out
 refine .s<|.g<|.bp ((k:Int)< (((AZ text_ ([44].headD 0)).length):Int)) (fun af=>?_) (fun af=>?_)
 ·refine .d<|.s<|.ct<|.sk<|.s<|.b 1<|.s<|.g<|gx (AZ text_ ([44].headD 0)) k fun ab ac=>?_
  have az:=drop_at ac; have ag:=AV ac
  refine RG.Ix 0 ac Z<|Z.el 0 ac fun Z=>RG.Lh 0 0 Z<|.r 1<|.d<|.s<|.g<|.r 1<|RG.C0 (IK ab.s [61] (by have q1:=(BK text_ 44).1 _ ‹_›; omega) rfl (F:=all)) Z fun w Z=>.r 7<|.d<|.g<|.r 4<|RG.Nb 1 Z fun aE w Z=>RG.Ap (hs:=by exact (by have q1:=(BK text_ ([44].headD 0)).2; omega)) 0 0 out (⟨(Cu ab.s ([61].headD 0)).1,(Cu ab.s ([61].headD 0)).2.1⟩:Tag) [] Z fun ak am w Z=>?_
  exact .r 1<|.d<|.ib 1<|.g<|.it ((k:Int)+1)<|.r 1<|.d<|ae ((out++[(⟨(Cu ab.s ([61].headD 0)).1,(Cu ab.s ([61].headD 0)).2.1⟩:Tag)]),ak,am,k+1) _ _ AA (Z.to 0 [] 1) ⟨AB,(by (simp; omega)),(by exact Sq ‹_› ‹_›)⟩ (by (simp only []; omega))
 refine .d<|.s<|.cf<|.x 0 rfl<|.s<|.s<|.g<|.r 1<|RG.eqv (v:=.bool ((text_==[]))) AA (GX text_ []) ?_
 cases aB:(text_==[])
 ·refine .r 2<|RG.C0 (G3 out (Z.oa 0) (by have q1:out=E5 text_:=CH (by assumption:out++((AZ text_ ([44].headD 0)).drop k).map (fun t=>KI t.s)=E5 text_) AB; rw [q1]; exact Ws p0)) Z fun w Z=>.r 1<|RG.eqv (v:=.bool (!(D9 out==text_))) AA (S9 (D9 out) text_) ?_
  cases aC:(D9 out==text_)
  ·exact .r 1<|.d<|.ct<|.s<|.g<|RG.N0 Tag 0 Z fun aF w Z=>.r 2<|.d<|T.r2 func32 results32 (.T _) (.t (.bool false)) ⟨⟨_,(Be rfl (AG (by have q1:out=E5 text_:=CH (by assumption:out++((AZ text_ ([44].headD 0)).drop k).map (fun t=>KI t.s)=E5 text_) AB; subst q1; rw [JT (.inr ‹_›)]))),Z.rM 0 ([]:List Tag) (by have q1:out=E5 text_:=CH (by assumption:out++((AZ text_ ([44].headD 0)).drop k).map (fun t=>KI t.s)=E5 text_) AB; subst q1; rw [JT (.inr ‹_›)])⟩,Z.xt⟩
  exact .r 1<|.d<|.cf<|.sk<|.s<|.g<|.r 3<|.d<|T.r2 func32 results32 (.T _) (.t (.bool true)) ⟨⟨_,(Be rfl (AG (by have q1:out=E5 text_:=CH (by assumption:out++((AZ text_ ([44].headD 0)).drop k).map (fun t=>KI t.s)=E5 text_) AB; subst q1; rw [NY ‹_› ‹_›]))),Z.rM 0 out (by have q1:out=E5 text_:=CH (by assumption:out++((AZ text_ ([44].headD 0)).drop k).map (fun t=>KI t.s)=E5 text_) AB; subst q1; rw [NY ‹_› ‹_›])⟩,Z.xt⟩
 exact .r 6<|.d<|.ct<|.s<|.g<|RG.N0 Tag 0 Z fun aG w Z=>.r 2<|.d<|T.r2 func32 results32 (.T _) (.t (.bool false)) ⟨⟨_,(Be rfl (AG (by have q1:out=E5 text_:=CH (by assumption:out++((AZ text_ ([44].headD 0)).drop k).map (fun t=>KI t.s)=E5 text_) AB; subst q1; rw [JT (.inl ‹_›)]))),Z.rM 0 ([]:List Tag) (by have q1:out=E5 text_:=CH (by assumption:out++((AZ text_ ([44].headD 0)).drop k).map (fun t=>KI t.s)=E5 text_) AB; subst q1; rw [JT (.inl ‹_›)])⟩,Z.xt⟩
theorem KM (text_:Str){F:Nat→Prop}  (p0:text_.length≤1000):Calls Tryz.prog 19 [.string (bs text_)].toArray w (Am fun rv w'=>(∃ v0,rv=.tuple #[v0,.bool (EU text_)]∧VL (ge w.heap.size) w' (Cy text_:List Tag) v0)∧Ext w w'):=by
 refine goT func19<|.s<|.g<|.r 2<|.d<|.s<|.g<|.r 1<|.cl (Fo text_ AB (w:=w) (F:=all)) ?_
 rintro dF dG ⟨⟨dH,rfl,⟨b7,b8,rfl,ac⟩⟩,bj⟩
 have bk:∀ q_∈([]:List Nat),q_< w.heap.size:=all_nil
 have b9:Gb w.heap.size w.heap.size:=(Nat.le_refl _)
 have aa:=bj
 have ac:=ac.fr bk b9
 have db:=ac.max
 refine .r 2 ?_
 cases de:(Ax text_).2
 ·refine .r 3<|.d<|.s<|.g<|.ns 0 83 [] fun ax aM aN bm cd ce=>?_
  have cg:=aa.cn aN
  replace ⟨ac,aa⟩:=(sn [] bm aN).g2 ac aa
  have ci:Own (α:=Tag) aM ax 83 (nin (ge w.heap.size) [ax]) 0 0 []:=Own.Ba cd
  refine .r 1<|.d<|.s<|.s<|.g<|.r 1<|.d<|.b 0<|T.loop (X:=(List Tag) × Nat × Nat × Nat × Nat) (([]:List Tag),ax,0,0,0) (fun (out,r_out,n_out,c_out,i)=>[(4,.slice b7 ((Ax text_).1.length) b8),(5,.bool false),(6,vS r_out n_out c_out),(7,vI (i:Int))]) (fun (out,r_out,n_out,c_out,i) bi=>Chg (ins [ax]) aM bi∧Own bi r_out 83 (nin (ge w.heap.size) [r_out]) n_out c_out out∧OrB r_out ax aM.heap.size∧(i≤(Ax text_).1.length)∧(out.length≤i)∧(CD out ((Ax text_).1.drop i)=CD [] (Ax text_).1)) (fun (out,r_out,n_out,c_out,i)=>(Ax text_).1.length - i) AA ⟨AA,AA,AA,AA,trivial⟩ ⟨Chg.refl _ _,ci,FO,AD,AD,AD⟩ ?_
  rintro ⟨out,r_out,n_out,c_out,i⟩ dI bi ⟨ag,ae,aG,df,dh,dj⟩ aO
  have dm:=Dk aG cg aa.size
  have cj:Cov (ins [ax]) aM ax:=⟨.inl AI⟩
  have dq:=Dk aG cj (Nat.le_refl _)
  have bn:Mv [ax] [r_out] aM bi:=Mv.inl ag (all_cons AI all_nil) (all_cons (GY aG AI) all_nil)
  replace ⟨ac,aa⟩:=(sp bn ag).g2 ac aa
  have dt:=ae.len; have du:=ae.max
  refine .s<|.s<|.g<|.r 3<|.bp ((i:Int)< (((Ax text_).1.length):Int)) (fun ck=>?_) (fun ck=>?_)
  ·refine .d<|.ct<|.sk<|.s<|.b 1<|.s<|.s<|.g<|.r 2 ?_
   have cm:i< (Ax text_).1.length:=AB
   refine .ix i 3 ac cm<|.r 1 ?_
   obtain ⟨aJ,aP⟩:∃ y,((Ax text_).1)[i]? = some y:=⟨_,AU AB⟩
   have dv:=drop_at aP
   obtain ⟨_,rfl,bo⟩:=ac.elem i aJ aP
   refine .lh 2 bo<|.d ?_
   cases dw:aJ.no
   ·refine .cf<|.sk<|.g<|.r 3 ?_
    have co:i< (Ax text_).1.length:=AB
    refine .ix i 3 ac co<|.r 1<|.lg 0 bo<|.ns 1 83 [vT aJ.tag.key,vT aJ.tag.val] fun cp dJ aQ bq cq cr=>?_
    have br:=Ab aQ ae.lt
    have cu:=Bq aQ aa.size
    replace ⟨ac,ae,aa,ag⟩:=(se [r_out] bq).g4 ac ae aa ag
    have aR:nin (ge w.heap.size) [r_out] cp∧cp≠r_out:=Fv cu (all_cons br all_nil) br
    refine RG.DJ (T:=52) (ty:=52) (y:=aJ.tag) ae cq AA AA rfl aR (by have q1:=Ht text_; omega) fun cL cM dK ay aD bu=>?_
    have cw:=Jd aD aG ag.size
    replace ⟨ac,aa,ag⟩:=(sa [r_out] bu aD).g3 ac aa ag
    replace ay:=ay.rn r_out
    exact .r 1<|.d<|.ib 1<|.g<|.r 1<|RG.int ((i:Int)+1) AA (by have q1:=Ht text_; omega)<|.r 1<|.d<|aO ((out++[aJ.tag]),cL,n_out+1,cM,i+1) _ _ ⟨AA,AA,AA,AA,trivial⟩ ⟨ag,ay,cw,AB,(by simp; omega),(by exact Oz ‹_› ‹_› ‹_›)⟩ (by (simp only []; omega))
   refine .ct<|.s<|.g<|.ns 0 83 [] fun aS cx aH bv cy cz=>?_
   have dz:=Ab aH ae.lt
   have cA:=Bq aH aa.size
   replace ⟨ac,ae,aa⟩:=(sn [r_out] bv aH).g3 ac ae aa
   have cB:Own (α:=Tag) cx aS 83 (nin (ge w.heap.size) [aS,r_out]) 0 0 []:=Own.Ba cy
   refine .r 2<|.d ?_
   have cN:=cB.sl cA
   replace ⟨ac,ae⟩:=(sd cx [aS,r_out] aS).g2 ac ae
   exact .r2 func19 results19 (.t (vS aS 0 0)) (.t (.bool false)) ⟨⟨_,(Be rfl (AG (by rw [Ph (I5 (Y:=CD [] (Ax text_).1) ‹_› ‹_› ‹_›)]))),(cN.vl (by rw [O0 (I5 (Y:=CD [] (Ax text_).1) ‹_› ‹_› ‹_›)]) (fun _ _ h=>h.1))⟩,aa⟩
  refine .d<|.cf<|.x 0 rfl<|.s<|.s<|.g<|.r 7<|.d<|.ct<|.s<|.g<|.ns 0 83 [] fun aT bw am aU bC bD=>?_
  have cO:=Ab am ae.lt
  have bE:=Bq am aa.size
  replace ⟨ac,aa⟩:=(sn [r_out] aU am).g2 ac aa
  have bF:Own (α:=Tag) bw aT 83 (nin (ge w.heap.size) [aT,r_out]) 0 0 []:=Own.Ba bC
  refine .r 2<|.d ?_
  have cC:=bF.sl bE
  replace ac:=(sd bw [aT,r_out] aT).g1 ac
  exact .r2 func19 results19 (.t (vS aT 0 0)) (.t (.bool false)) ⟨⟨_,(Be rfl (AG (by rw [Pj ‹_› AB (.inl ‹_›)]))),(cC.vl (by rw [O1 ‹_› AB (.inl ‹_›)]) (fun _ _ h=>h.1))⟩,aa⟩
 refine .r 3<|.d<|.s<|.g<|.ns 0 83 [] fun ah az ao aV bG bH=>?_
 have bI:=Bq ao aa.size
 have bJ:=aa.cn ao
 replace ⟨ac,aa⟩:=(sn [] aV ao).g2 ac aa
 have bK:Own (α:=Tag) az ah 83 (nin (ge w.heap.size) [ah]) 0 0 []:=Own.Ba bG
 refine .r 1<|.d<|.s<|.s<|.g<|.r 1<|.d<|.b 0<|T.loop (X:=(List Tag) × Nat × Nat × Nat × Nat) (([]:List Tag),ah,0,0,0) (fun (out,r_out,n_out,c_out,i)=>[(4,.slice b7 ((Ax text_).1.length) b8),(5,.bool true),(6,vS r_out n_out c_out),(7,vI (i:Int))]) (fun (out,r_out,n_out,c_out,i) aA=>Chg (ins [ah]) az aA∧Own aA r_out 83 (nin (ge w.heap.size) [r_out]) n_out c_out out∧OrB r_out ah az.heap.size∧(i≤(Ax text_).1.length)∧(out.length≤i)∧(CD out ((Ax text_).1.drop i)=CD [] (Ax text_).1)) (fun (out,r_out,n_out,c_out,i)=>(Ax text_).1.length - i) AA ⟨AA,AA,AA,AA,trivial⟩ ⟨Chg.refl _ _,bK,FO,AD,AD,AD⟩ ?_
 rintro ⟨out,r_out,n_out,c_out,i⟩ dA aA ⟨af,ab,ai,cP,cQ,cR⟩ aK
 have bL:=P1 ai bI aa.size
 have cS:=Dk ai bJ aa.size
 have bM:Cov (ins [ah]) az ah:=⟨.inl AI⟩
 have cT:=Dk ai bM (Nat.le_refl _)
 have aW:Mv [ah] [r_out] az aA:=Mv.inl af (all_cons AI all_nil) (all_cons (GY ai AI) all_nil)
 replace ⟨ac,aa⟩:=(sp aW af).g2 ac aa
 have cU:=ab.len; have cV:=ab.max
 refine .s<|.s<|.g<|.r 3<|.bp ((i:Int)< (((Ax text_).1.length):Int)) (fun bN=>?_) (fun bN=>?_)
 ·refine .d<|.ct<|.sk<|.s<|.b 1<|.s<|.s<|.g<|.r 2 ?_
  have bO:i< (Ax text_).1.length:=AB
  refine .ix i 3 ac bO<|.r 1 ?_
  obtain ⟨ak,aE⟩:∃ y,((Ax text_).1)[i]? = some y:=⟨_,AU AB⟩
  have cW:=drop_at aE
  obtain ⟨_,rfl,aX⟩:=ac.elem i ak aE
  refine .lh 2 aX<|.d ?_
  cases cX:ak.no
  ·refine .cf<|.sk<|.g<|.r 3 ?_
   have bP:i< (Ax text_).1.length:=AB
   refine .ix i 3 ac bP<|.r 1<|.lg 0 aX<|.ns 1 83 [vT ak.tag.key,vT ak.tag.val] fun bz dB aF aY bQ bR=>?_
   have aZ:=Ab aF ab.lt
   have bS:=Bq aF aa.size
   replace ⟨ab,aa,af⟩:=(se [r_out] aY).g3 ab aa af
   have aL:nin (ge w.heap.size) [r_out] bz∧bz≠r_out:=Fv bS (all_cons aZ all_nil) aZ
   refine RG.DJ (T:=52) (ty:=52) (y:=ak.tag) ab bQ AA AA rfl aL (by have q1:=Ht text_; omega) fun cE cF dC aj aI ba=>?_
   have bT:=Jd aI ai af.size
   replace ⟨aa,af⟩:=(s1 ba).g2 aa af
   replace aj:=aj.rn r_out
   exact .r 1<|.d<|.ib 1<|.g<|.r 1<|RG.int ((i:Int)+1) AA (by have q1:=Ht text_; omega)<|.r 1<|.d<|aK ((out++[ak.tag]),cE,n_out+1,cF,i+1) _ _ ⟨AA,AA,AA,AA,trivial⟩ ⟨af,aj,bT,AB,(by simp; omega),(by exact Oz ‹_› ‹_› ‹_›)⟩ (by (simp only []; omega))
  refine .ct<|.s<|.g<|.ns 0 83 [] fun aB bA aq bd bU bV=>?_
  have c7:=Ab aq ab.lt
  have bW:=Bq aq aa.size
  replace ⟨ab,aa⟩:=(sn [r_out] bd aq).g2 ab aa
  have bX:Own (α:=Tag) bA aB 83 (nin (ge w.heap.size) [aB,r_out]) 0 0 []:=Own.Ba bU
  refine .r 2<|.d ?_
  have cG:=bX.sl bW
  replace ab:=(sd bA [aB,r_out] aB).g1 ab
  exact .r2 func19 results19 (.t (vS aB 0 0)) (.t (.bool false)) ⟨⟨_,(Be rfl (AG (by rw [Ph (I5 (Y:=CD [] (Ax text_).1) ‹_› ‹_› ‹_›)]))),(cG.vl (by rw [O0 (I5 (Y:=CD [] (Ax text_).1) ‹_› ‹_› ‹_›)]) (fun _ _ h=>h.1))⟩,aa⟩
 refine .d<|.cf<|.x 0 rfl<|.s<|.s<|.g<|.r 4<|.cl (Fx out (ab.rep) (w:=aA) (F:=all)) ?_
 rintro dD dE ⟨rfl,bg⟩
 replace ⟨ab,aa⟩:=(se [r_out] bg).g2 ab aa
 cases c8:(Ao out)
 ·refine .r 2<|.d<|.ct<|.s<|.g<|.ns 0 83 [] fun aC bB ar bh bY bZ=>?_
  have da:=Ab ar ab.lt
  have b0:=Bq ar aa.size
  replace ⟨ab,aa⟩:=(sn [r_out] bh ar).g2 ab aa
  have b6:Own (α:=Tag) bB aC 83 (nin (ge w.heap.size) [aC,r_out]) 0 0 []:=Own.Ba bY
  refine .r 2<|.d ?_
  have cH:=b6.sl b0
  replace ab:=(sd bB [aC,r_out] aC).g1 ab
  exact .r2 func19 results19 (.t (vS aC 0 0)) (.t (.bool false)) ⟨⟨_,(Be rfl (AG (by rw [Pj ‹_› AB (.inr ‹_›)]))),(cH.vl (by rw [O1 ‹_› AB (.inr ‹_›)]) (fun _ _ h=>h.1))⟩,aa⟩
 refine .r 2<|.d<|.cf<|.sk<|.s<|.g<|.r 3<|.d ?_
 have cI:=ab.sl bL
 exact .r2 func19 results19 (.t (vS r_out n_out c_out)) (.t (.bool true)) ⟨⟨_,(Be rfl (AG (by rw [Uy ‹_› AB ‹_› ‹_›]))),(cI.vl (by rw [TX ‹_› AB ‹_› ‹_›]) (fun _ _ h=>h.1))⟩,aa⟩
theorem JX (f:List Cnd) (h1:RepS w F a1 n1 c1 f) (p0:U0 f):Calls Tryz.prog 80 [.slice a1 n1 c1].toArray w (Am fun rv w'=>rv=.string (bs (H7 f))∧Ext w w'):=by
 refine goT func80 ?_
 obtain ⟨rfl,bL,h1⟩:=h1.tp
 refine .s<|.g<|.r 1<|.d<|.s<|.s<|.g<|.r 1<|.cl (G2 f h1.ta (w:=w) (F:=all)) ?_
 rintro b8 b9 ⟨rfl,az⟩
 replace h1:=(se [] az).g1 h1
 have aa:=az
 cases bM:(Bt f)
 ·exact .r 1<|.d<|.ct<|.s<|.g<|.r 1<|.d<|.rt func80 results80 (.string (bs [])) ⟨(congrArg (fun s=>Value.string (bs s)) (by rw [Rj ‹_›])),aa⟩
 refine .r 1<|.d<|.cf<|.sk<|.s<|.s<|.g<|.r 2<|.eq (f.length:Int) 0 (fun ba=>.d<|.ct<|.s<|.g<|.r 1<|.d<|.rt func80 results80 (.string (bs [42])) ⟨(congrArg (fun s=>Value.string (bs s)) (by rw [Yc ‹_› ‹_›])),aa⟩) fun ba=>.d<|.cf<|.sk<|.s<|.g<|.ns 0 9 [] fun aj aA aB aL bd bg=>?_
 have bh:=aa.cn aB
 replace ⟨h1,aa⟩:=(sn [] aL aB).g2 h1 aa
 have bi:Own (α:=Txt) aA aj 9 (nin (ge w.heap.size) [aj]) 0 0 []:=Own.Ba bd
 refine .r 1<|.d<|.s<|.s<|.g<|.r 3<|.d<|.b 0<|T.loop (X:=(List Txt) × Nat × Nat × Nat × Nat) (([]:List Txt),aj,0,0,0) (fun (out,r_out,n_out,c_out,k)=>[(3,vS r_out n_out c_out),(14,.slice a1 f.length c1),(15,vI (f.length:Int)),(16,vI (k:Int))]) (fun (out,r_out,n_out,c_out,k) aC=>Chg (ins [aj]) aA aC∧Own aC r_out 9 (nin (ge w.heap.size) [r_out]) n_out c_out out∧OrB r_out aj aA.heap.size∧(k≤f.length)∧(out.length≤k)∧(out++(f.drop k).map cwT=f.map cwT)) (fun (out,r_out,n_out,c_out,k)=>f.length - k) AA ⟨AA,AA,AA,AA,trivial⟩ ⟨Chg.refl _ _,bi,FO,AB,AD,AF⟩ ?_
 rintro ⟨out,r_out,n_out,c_out,k⟩ cd aC ⟨ab,ac,ak,bN,bO,bP⟩ am
 have bQ:=Dk ak bh aa.size
 have bj:Cov (ins [aj]) aA aj:=⟨.inl AI⟩
 have bR:=Dk ak bj (Nat.le_refl _)
 have aM:Mv [aj] [r_out] aA aC:=Mv.inl ab (all_cons AI all_nil) (all_cons (GY ak AI) all_nil)
 replace ⟨h1,aa⟩:=(sp aM ab).g2 h1 aa
 have bS:=ac.len; have bT:=ac.max
 refine .s<|.g<|.bp ((k:Int)< (f.length:Int)) (fun bk=>?_) (fun bk=>?_)
 ·refine .d<|.s<|.ct<|.sk<|.s<|.b 1<|.s<|.g ?_
  have bm:k< f.length:=AB
  refine .ix k 3 h1 bm ?_
  obtain ⟨ae,aD⟩:∃ y,f[k]? = some y:=⟨_,AU AB⟩
  have bU:=drop_at aD; have bG:=AV aD
  obtain ⟨_,rfl,bn⟩:=h1.elem k ae aD
  refine .lg 0 bn<|.np 85 [.string (bs []),.string (bs []),.bool false] fun aq ce ao aN bo bq=>?_
  have bV:=Ab ao ac.lt
  have bW:=aa.cn ao
  have bX:=ab.cn ao
  replace ⟨ac,aa,ab⟩:=(sn [r_out] aN ao).g3 ac aa ab
  refine .sc [vT ae.tag.key,vT ae.tag.val,.bool ae.no] bo fun cg aO af br=>?_
  replace ⟨ac,aa,ab⟩:=(so [aq,r_out] aO).g3 ac aa ab
  refine .d<|.s<|.g<|.r 1<|.d<|.s<|.s<|.g<|.r 1<|.lb af<|.d ?_
  cases bY:ae.no
  ·refine .cf<|.sk<|.g<|.r 3<|.lb af<|.r 1<|RG.cat (t:=9) (s:=ae.tag.key) (u:=[61]) AA (by have q1:=p0.2 _ ‹_›; simp only [List.length_append,List.length_cons,List.length_nil]; omega)<|.r 2<|.lb af<|RG.cat (t:=9) (s:=(ae.tag.key++[61])) (u:=ae.tag.val) AA (by have q1:=p0.2 _ ‹_›; simp only [List.length_append,List.length_cons,List.length_nil]; omega)<|.ns 1 9 [.string (bs ((ae.tag.key++[61])++ae.tag.val))] fun bu ci ar aP bv bw=>?_
   have aQ:=Ab ar ac.lt
   have bz:=Ab ar af.lt
   have bA:=Bq ar aa.size
   replace ⟨ac,af,aa,ab⟩:=(se [aq,r_out] aP).g4 ac af aa ab
   have aE:nin (ge w.heap.size) [aq,r_out] bu∧bu≠r_out:=Fv bA (all_cons bz (all_cons aQ all_nil)) aQ
   refine RG.DJ (T:=39) (ty:=39) (y:=(⟨((ae.tag.key++[61])++ae.tag.val)⟩:Txt)) ac bv AA AA rfl aE (by have:=p0.1; omega) fun aT bI bB ah aF aR=>?_
   have bC:=Jd aF ak ab.size
   replace ⟨af,aa,ab⟩:=(s1 aR).g3 af aa ab
   replace ah:=ah.rn r_out
   have bZ:=ah.len
   refine .r 1<|.d<|.ib 1<|.g<|.it ((k:Int)+1)<|.r 1<|.d ?_
   have bD:Mv [aq,aT] [aT] bB bB:=Mv.less (all_cons AJ all_nil)
   replace ah:=(sp bD (Chg.refl nil _)).g1 ah
   exact am ((out++[(⟨((ae.tag.key++[61])++ae.tag.val)⟩:Txt)]),aT,n_out+1,bI,k+1) _ _ ⟨AA,AA,AA,AA,trivial⟩ ⟨ab,ah,bC,AB,AB,(by exact Wv ‹_› ‹_› ‹_›)⟩ (by (simp only []; omega))
  refine .ct<|.g<|.r 1<|.d<|.g<|.r 3<|.lb af<|.r 1<|RG.cat (t:=9) (s:=ae.tag.key) (u:=[33,61]) AA (by have q1:=p0.2 _ ‹_›; simp only [List.length_append,List.length_cons,List.length_nil]; omega)<|.r 2<|.lb af<|RG.cat (t:=9) (s:=(ae.tag.key++[33,61])) (u:=ae.tag.val) AA (by have q1:=p0.2 _ ‹_›; simp only [List.length_append,List.length_cons,List.length_nil]; omega)<|.ns 1 9 [.string (bs ((ae.tag.key++[33,61])++ae.tag.val))] fun bE cj ai aG aU aV=>?_
  have aH:=Ab ai ac.lt
  have aW:=Ab ai af.lt
  have aX:=Bq ai aa.size
  replace ⟨ac,aa,ab⟩:=(se [aq,r_out] aG).g3 ac aa ab
  have ay:nin (ge w.heap.size) [aq,r_out] bE∧bE≠r_out:=Fv aX (all_cons aW (all_cons aH all_nil)) aH
  refine RG.DJ (T:=39) (ty:=39) (y:=(⟨((ae.tag.key++[33,61])++ae.tag.val)⟩:Txt)) ac aU AA AA rfl ay (by have:=p0.1; omega) fun aI bF aS ag ax aJ=>?_
  have aY:=Jd ax ak ab.size
  replace ⟨aa,ab⟩:=(s1 aJ).g2 aa ab
  replace ag:=ag.rn r_out
  have bJ:=ag.len
  refine .r 1<|.d<|.ib 1<|.g<|.it ((k:Int)+1)<|.r 1<|.d ?_
  have aZ:Mv [aq,aI] [aI] aS aS:=Mv.less (all_cons AJ all_nil)
  replace ag:=(sp aZ (Chg.refl nil _)).g1 ag
  exact am ((out++[(⟨((ae.tag.key++[33,61])++ae.tag.val)⟩:Txt)]),aI,n_out+1,bF,k+1) _ _ ⟨AA,AA,AA,AA,trivial⟩ ⟨ab,ag,aY,AB,AB,(by exact Wu ‹_› ‹_› ‹_›)⟩ (by (simp only []; omega))
 refine .d<|.s<|.cf<|.x 0 rfl<|.s<|.g<|.r 1<|.cl (FV out [44] (ac.rep) (U2 p0 ‹_› AB).1 (U2 p0 ‹_› AB).2 (w:=aC) (F:=all)) ?_
 rintro b6 b7 ⟨rfl,aK⟩
 replace aa:=(se [] aK).g1 aa
 exact .r 1<|.d<|.rt func80 results80 (.string (bs (Lib.join (out.map Txt.s) [44]))) ⟨(congrArg (fun s=>Value.string (bs s)) (by rw [U1 ‹_› ‹_› ‹_› AB])),aa⟩
theorem JY (text_:Str){F:Nat→Prop}  (p0:text_.length≤999):Calls Tryz.prog 36 [.string (bs text_)].toArray w (Am fun rv w'=>(∃ v0,rv=.tuple #[v0,.bool ((CW text_).2)]∧VL (ge w.heap.size) w' ((CW text_).1:List Cnd) v0)∧Ext w w'):=by
 refine goT func36 ?_
 have Z:=St.i0 F w
 refine .s<|.g<|.r 2<|.d<|.s<|.g<|RG.N0 Cnd 0 Z fun ah w Z=>.r 1<|.d<|.s<|.s<|.g<|.r 1<|RG.eqv (v:=.bool ((text_==[42]))) AA (GX text_ [42]) ?_
 cases ao:(text_==[42])
 ·refine .d<|.cf<|.sk<|.s<|.s<|.g<|.r 1<|RG.CL (Dt text_ [44] AB rfl (F:=all)) Z fun ai aj w Z=>?_
  have aq:=Z.mf 0 (AZ text_ ([44].headD 0))
  refine .r 2<|.d<|.b 0<|T.Lp (([]:List Cnd),ah,(0:Nat),(0:Nat)) (fun (out,r_out,c_out,k)=>([(0,vT text_),(4,vS r_out out.length c_out),(16,.slice ai ((AZ text_ ([44].headD 0)).length) aj),(17,vI (((AZ text_ ([44].headD 0)).length):Int)),(18,vI (k:Int))],[(0,.own 0 r_out 85 c_out out)],[],(AZ text_ ([44].headD 0)).length - k,(k≤(AZ text_ ([44].headD 0)).length)∧(out.length≤k)∧(out++((AZ text_ ([44].headD 0)).drop k).map (fun t=>Ij t.s)=EC text_))) [] Z ⟨AD,AD,AF⟩ ?_
  rintro ⟨out,r_out,c_out,k⟩ aE w Z ⟨ar,ax,ay⟩ ae
  have az:=Z.mo 0 out
  refine .s<|.g<|.bp ((k:Int)< (((AZ text_ ([44].headD 0)).length):Int)) (fun af=>?_) (fun af=>?_)
  ·refine .d<|.s<|.ct<|.sk<|.s<|.b 1<|.s<|.g<|gx (AZ text_ ([44].headD 0)) k fun aa ac=>?_
   have aA:=drop_at ac; have ag:=AV ac
   refine RG.Ix 0 ac Z<|Z.el 0 ac fun Z=>RG.Lh 0 0 Z<|.r 1<|.d<|.s<|.g<|.r 1<|RG.C0 (IK aa.s [61] (by have q1:=(BK text_ 44).1 _ ‹_›; omega) rfl (F:=all)) Z fun w Z=>.r 7<|.d<|.s<|.g<|.r 1<|RG.Np Z fun aF w Z=>RG.Ss 0 Z fun w Z=>.d<|.s<|.g<|.r 1<|RG.C0 (H9 ((Cu aa.s ([61].headD 0)).1) [33] (Nat.le_trans (MN _ 61).1 (by have q1:=(BK text_ 44).1 _ ‹_›; omega)) (F:=all)) Z fun w Z=>.r 5<|RG.Ss 0 Z fun w Z=>.d<|.s<|.g<|.r 4<|RG.Ss 0 Z fun w Z=>.d<|.g<|.r 1<|RG.Ln 0 Z<|RG.Nb 1 Z fun aG w Z=>RG.Ap (hs:=by exact (by have q1:=(BK text_ ([44].headD 0)).2; omega)) 1 0 out (⟨(⟨(Db ((Cu aa.s ([61].headD 0)).1) [33]).1,(Cu aa.s ([61].headD 0)).2.1⟩:Tag),(Db ((Cu aa.s ([61].headD 0)).1) [33]).2⟩:Cnd) [] Z fun ak am w Z=>?_
   exact .r 1<|.d<|.ib 1<|.g<|.it ((k:Int)+1)<|.r 1<|.d<|ae ((out++[(⟨(⟨(Db ((Cu aa.s ([61].headD 0)).1) [33]).1,(Cu aa.s ([61].headD 0)).2.1⟩:Tag),(Db ((Cu aa.s ([61].headD 0)).1) [33]).2⟩:Cnd)]),ak,am,k+1) _ _ AA (Z.to 1 [] 1) ⟨AB,(by (simp; omega)),(by exact Sr ‹_› ‹_›)⟩ (by (simp only []; omega))
  refine .d<|.s<|.cf<|.x 0 rfl<|.s<|.s<|.g<|.r 1<|RG.eqv (v:=.bool ((text_==[]))) AA (GX text_ []) ?_
  cases aC:(text_==[])
  ·refine .r 2<|RG.C0 (JX out (Z.oa 0) (by have q1:out=EC text_:=CH (by assumption:out++((AZ text_ ([44].headD 0)).drop k).map (fun t=>Ij t.s)=EC text_) AB; rw [q1]; exact Wt p0)) Z fun w Z=>.r 1<|RG.eqv (v:=.bool (!(H7 out==text_))) AA (S9 (H7 out) text_) ?_
   cases aD:(H7 out==text_)
   ·exact .r 1<|.d<|.ct<|.s<|.g<|RG.N0 Cnd 0 Z fun aH w Z=>.r 2<|.d<|T.r2 func36 results36 (.T _) (.t (.bool false)) ⟨⟨_,(Be rfl (AG (by (have q1:out=EC text_:=CH (by assumption:out++((AZ text_ ([44].headD 0)).drop k).map (fun t=>Ij t.s)=EC text_) AB; subst q1; rw [JU ‹_› (.inr ‹_›)])))),Z.rM 0 ([]:List Cnd) (by (have q1:out=EC text_:=CH (by assumption:out++((AZ text_ ([44].headD 0)).drop k).map (fun t=>Ij t.s)=EC text_) AB; subst q1; rw [JU ‹_› (.inr ‹_›)]))⟩,Z.xt⟩
   exact .r 1<|.d<|.cf<|.sk<|.s<|.g<|.r 3<|.d<|T.r2 func36 results36 (.T _) (.t (.bool true)) ⟨⟨_,(Be rfl (AG (by (have q1:out=EC text_:=CH (by assumption:out++((AZ text_ ([44].headD 0)).drop k).map (fun t=>Ij t.s)=EC text_) AB; subst q1; rw [NZ ‹_› ‹_› ‹_›])))),Z.rM 0 out (by (have q1:out=EC text_:=CH (by assumption:out++((AZ text_ ([44].headD 0)).drop k).map (fun t=>Ij t.s)=EC text_) AB; subst q1; rw [NZ ‹_› ‹_› ‹_›]))⟩,Z.xt⟩
  exact .r 6<|.d<|.ct<|.s<|.g<|RG.N0 Cnd 0 Z fun aI w Z=>.r 2<|.d<|T.r2 func36 results36 (.T _) (.t (.bool false)) ⟨⟨_,(Be rfl (AG (by (have q1:out=EC text_:=CH (by assumption:out++((AZ text_ ([44].headD 0)).drop k).map (fun t=>Ij t.s)=EC text_) AB; subst q1; rw [JU ‹_› (.inl ‹_›)])))),Z.rM 0 ([]:List Cnd) (by (have q1:out=EC text_:=CH (by assumption:out++((AZ text_ ([44].headD 0)).drop k).map (fun t=>Ij t.s)=EC text_) AB; subst q1; rw [JU ‹_› (.inl ‹_›)]))⟩,Z.xt⟩
 exact .d<|.ct<|.s<|.g<|.r 3<|.d<|T.r2 func36 results36 (.T _) (.t (.bool true)) ⟨⟨_,(Be rfl (AG (by rw [MO ‹_›]))),Z.rM 0 ([]:List Cnd) (by rw [MO ‹_›])⟩,Z.xt⟩
theorem Hh (hits:List Hit) (h1:RepS w F a1 n1 c1 hits) (htab:RepS w F (some ⟨5,0,none⟩) Em.length Em.length Em) (p0:∀ h∈hits,HitD h) (p1:hits.length≤6):Calls Tryz.prog 14 [.slice a1 n1 c1].toArray w (Am fun rv w'=>rv=.string (bs (Cl hits))∧Ext w w'):=by
 cases h1.len
 refine goT func14 ?_
 have Z:=((St.i0 F w).p h1).p htab
 refine .s<|.g<|.r 1<|.d<|.s<|.g<|.r 1<|.d<|.s<|.s<|.g<|.r 3<|.d<|.b 0<|T.Lp ([],(0:Nat)) (fun (out,k)=>([(3,vT out),(8,.slice a1 hits.length c1),(9,vI (hits.length:Int)),(10,vI (k:Int))],[],[],hits.length - k,(k≤hits.length)∧(out.length≤901 * k)∧(out++Cl (hits.drop k)=Cl hits))) [] Z ⟨AB,AD,AF⟩ ?_
 rintro ⟨out,k⟩ aM w Z ⟨aD,aE,aF⟩ ah
 refine .s<|.g<|.bp ((k:Int)< (hits.length:Int)) (fun am=>?_) (fun am=>.d<|.s<|.cf<|.x 0 rfl<|.s<|.g<|.r 2<|.d<|T.rt func14 results14 (vT out) ⟨(congrArg (fun s=>Value.string (bs s)) (by exact U5 ‹_› AB)),Z.xt⟩)
 refine .d<|.s<|.ct<|.sk<|.s<|.b 1<|.s<|.g<|gx hits k fun ac af=>?_
 have aG:=drop_at af; have ay:=AV af
 refine RG.Ix 1 af Z<|Z.el 1 af fun aA aB Z=>?_
 have aH:=Z.mf 1 ac.rows
 refine RG.Lg 0 0 Z<|RG.Np Z fun aN w Z=>RG.Ss 0 Z fun w Z=>.d<|.s<|.g<|.r 2<|RG.Lb 0 Z<|RG.cat (t:=9) (s:=out) (u:=ac.name) AA (by have q1:=p0 _ (by assumption:_∈hits); have q2:=q1.n; omega)<|.r 1<|.d<|.s<|.s<|.g<|.r 1<|RG.Lb 0 Z<|.r 2<|.d<|.b 2<|T.Lp ((out++ac.name),(0:Nat)) (fun (ab,k1)=>([(3,vT ab),(8,.slice a1 hits.length c1),(9,vI (hits.length:Int)),(10,vI (k:Int)),(19,.slice aA ac.rows.length aB),(20,vI (ac.rows.length:Int)),(21,vI (k1:Int))],[],[],ac.rows.length - k1,(k1≤ac.rows.length)∧(ab.length≤901 * k+100+8 * k1)∧(ab++GU (ac.rows.drop k1)=(out++ac.name)++GU ac.rows))) [] Z ⟨AB,(by have q1:=p0 _ (by assumption:_∈hits); simp only [List.length_append]; have q2:=q1.n; omega),AF⟩ ?_
 rintro ⟨ab,k1⟩ aO w Z ⟨aI,aJ,aK⟩ aj
 refine .s<|.g<|.bp ((k1:Int)< (ac.rows.length:Int)) (fun ax=>?_) (fun ax=>.d<|.s<|.cf<|.x 2 rfl<|.g<|.r 1<|RG.cat (t:=9) (s:=ab) (u:=[10]) AA (by have q1:=p0 _ (by assumption:_∈hits); have q3:=q1.l; (simp only [List.length_append,List.length_cons,List.length_nil]; omega))<|.r 1<|.d<|.ib 1<|.g<|.it ((k:Int)+1)<|.r 1<|.d<|ah ((ab++[10]),k+1) _ _ AA (Z.to 1 [] 2) ⟨AB,(by have q1:=p0 _ (by assumption:_∈hits); have q2:=q1.l; simp only [List.length_append,List.length_cons,List.length_nil]; omega),(by exact Rl ‹_› ‹_› (U4 ‹_› AB) rfl)⟩ (by (simp only []; omega)))
 refine .d<|.s<|.ct<|.sk<|.s<|.b 3<|.s<|.g<|gx ac.rows k1 fun aa ag=>?_
 have aL:=drop_at ag; have az:=AV ag
 exact RG.Ix 1 ag Z<|Z.el 1 ag fun Z=>RG.Lg 0 0 Z<|RG.Np Z fun aP w Z=>RG.Ss 0 Z fun w Z=>.d<|T.Gd 10 Z fun w Z=>.r [0,1]<|GA.Lb 2 0 Z<|GA.C0 3 Z (fun w Z=>Fh aa.t (Z.a 3) (by have q1:=p0 _ (by assumption:_∈hits); have q2:=q1.r _ ‹_›; omega))<|GA.cat (i:=4) (t:=9) (s:=[32]) (u:=Bs aa.t) AA AA (by have q1:=p0 _ (by assumption:_∈hits); (simp only [List.length_append,List.length_cons,List.length_nil]; (have q4:=BP aa.t; omega)))<|GA.cat (i:=5) (t:=9) (s:=([32]++(Bs aa.t))) (u:=[58]) AA AA (by have q1:=p0 _ (by assumption:_∈hits); (simp only [List.length_append,List.length_cons,List.length_nil]; (have q4:=BP aa.t; omega)))<|.r [6]<|GA.Lb 7 0 Z<|GA.C0 8 Z (fun w Z=>Fh aa.v (Z.a 3) (by have q1:=p0 _ (by assumption:_∈hits); have q2:=q1.r _ ‹_›; omega))<|GA.cat (i:=9) (t:=9) (s:=(([32]++(Bs aa.t))++[58])) (u:=Bs aa.v) AA AA (by have q1:=p0 _ (by assumption:_∈hits); (simp only [List.length_append,List.length_cons,List.length_nil]; (have q4:=BP aa.t; have q5:=BP aa.v; omega)))<|GA.Dn Z fun w Z=>RG.cat (t:=9) (s:=ab) (u:=((([32]++(Bs aa.t))++[58])++(Bs aa.v))) AA (by have q1:=p0 _ (by assumption:_∈hits); have q3:=q1.l; (simp only [List.length_append,List.length_cons,List.length_nil]; (have q4:=BP aa.t; have q5:=BP aa.v; omega)))<|.r 1<|.d<|.ib 3<|.g<|.it ((k1:Int)+1)<|.r 1<|.d<|aj ((ab++((([32]++(Bs aa.t))++[58])++(Bs aa.v))),k1+1) _ _ AA (Z.to 1 [] 1) ⟨AB,(by have q2:=MP aa; simp only [Pk,List.length_append,List.length_cons,List.length_nil] at q2 ⊢; omega),(by exact Rk ‹_› ‹_› (by simp [Pk]))⟩ (by (simp only []; omega))
theorem Hk (words:List Txt) (k:Int) (h1:RepS w F a1 n1 c1 words) (p0:0≤k):Calls Tryz.prog 20 [.slice a1 n1 c1,.int .i64 k].toArray w (Am fun rv w'=>rv=.string (bs (Bh words ((k:Int).toNat)))∧Ext w w'):=by
 cases h1.len
 refine goT func20 ?_
 have Z:=(St.i0 F w).p h1
 have af:=h1.max
 refine .s<|.g<|.r 1<|.d<|.s<|.s<|.g<|.r 3<|.bp (k< (words.length:Int)) (fun ab=>?_) (fun ab=>.d<|.cf<|.sk<|.s<|.g<|.r 1<|.d<|T.rt func20 results20 (.string (bs [])) ⟨(congrArg (fun s=>Value.string (bs s)) (by rw [PX AB])),Z.xt⟩)
 refine .d<|.ct<|.s<|.g<|.r 2<|gx words (k.toNat) fun ae aa=>?_
 exact RG.Jx 0 k aa Z<|Z.el 0 aa fun Z=>RG.Lh 0 0 Z<|.r 1<|.d<|T.rt func20 results20 (vT ae.s) ⟨(congrArg (fun s=>Value.string (bs s)) (by rw [MH ‹_›])),Z.xt⟩
end Go.Proofs.YtfninflnngpchaaGreatDoor
namespace Go.Proofs.YtfninflnngpchaaGreatDoor
set_option maxRecDepth 100000
set_option maxHeartbeats 4000000
variable {w:World} {F:Nat→Prop}
theorem Mm (n:Int){F:Nat→Prop}  (p0:∀ (m:Int){w:World}{F:Nat→Prop},l6m m< l6m n → -99≤m∧m≤99→Calls Tryz.prog 24 [.int .i64 m].toArray w (Am fun rv w'=>rv=.string (bs (Bs m))∧Ext w w')) (p1:-99≤n∧n≤99):Calls Tryz.prog 24 [.int .i64 n].toArray w (Am fun rv w'=>rv=.string (bs (Bs n))∧Ext w w'):=by
 refine goT func24 ?_
 have Z:=St.i0 F w
 refine .s<|.g<|.r 1<|.d<|.s<|.s<|.g<|.r 1<|.bp (n< (-9223372036854775807)) (fun ae=>.d<|.ct<|.s<|.g<|.r 1<|.d<|T.rt func24 results24 (.string (bs [45,57,50,50,51,51,55,50,48,51,54,56,53,52,55,55,53,56,48,56])) ⟨(congrArg (fun s=>Value.string (bs s)) (by (exfalso; omega))),Z.xt⟩) fun ae=>.d<|.cf<|.sk<|.s<|.s<|.g<|.r 1<|.bp (n< 0) (fun af=>.d<|.ct<|.s<|.g<|.r 1<|RG.int (0 - n) AA AB<|RG.C0 (p0 (0 - n) (by exact Za ‹_›) AB (F:=all)) Z fun w Z=>RG.cat (t:=9) (s:=[45]) (u:=Bs (0 - n)) AA (by have q1:=BP (0 - n); simp only [List.length_append,List.length_cons,List.length_nil]; omega)<|.r 1<|.d<|T.rt func24 results24 (.string (bs ([45]++(Bs (0 - n))))) ⟨(congrArg (fun s=>Value.string (bs s)) (by exact YW ‹_›)),Z.xt⟩) fun af=>.d<|.cf<|.sk<|.s<|.s<|.g<|.r 1<|.bp (n< 10) (fun ag=>?_) (fun ag=>?_)
 ·refine .d<|.ct<|.s<|.g<|.r 1<|RG.int (48+n) AA AB ?_
  obtain ⟨ab,ah⟩:∃ y:UInt8,(y.toNat:Int)=48+n:=RU AB
  exact RG.eqv (v:=.int .u8 (ab.toNat:Int)) (v':=.int .u8 (IntKind.u8.wrap (48+n))) AA (NM ah)<|RG.Nl 0 ([ab]:List UInt8) [] Z fun ak w Z=>RG.b2s (s:=50) (d:=9) (y:=ab) (Z.ow 0 ([ab]:List UInt8) AA).1 AA AA<|.r 1<|.d<|T.rt func24 results24 (.string (bs [ab])) ⟨(congrArg (fun s=>Value.string (bs s)) (by exact YX ‹_› ‹_› ‹_›)),Z.xt⟩
 refine .d<|.cf<|.sk<|.s<|T.Gd 9 Z fun w Z=>.r [0]<|GA.quo (i:=1) (t:=3) (a:=n) (b:=10) AA AA AB (by have q1:=NU (n:=n) AB; omega)<|GA.C0 2 Z (fun w Z=>p0 (Int.tdiv n 10) (by exact Zb ‹_› ‹_›) (by (have q1:=NU (n:=n) AB; omega)) (F:=all))<|.r [3,4]<|GA.int (i:=5) (48+(Int.tmod n 10)) AA (by (have q1:=NU (n:=n) AB; omega)) ?_
 obtain ⟨aa,ai⟩:∃ y:UInt8,(y.toNat:Int)=48+(Int.tmod n 10):=RU (by (have q1:=NU (n:=n) AB; omega))
 exact GA.eqv (i:=6) (v:=.int .u8 (aa.toNat:Int)) (v':=.int .u8 (IntKind.u8.wrap (48+(Int.tmod n 10)))) AA (NM ai)<|.go 7<|GE.Nl 0 ([aa]:List UInt8) [] Z fun am w Z=>GA.b2s (i:=8) (s:=50) (d:=9) (y:=aa) AA (Z.ow 0 ([aa]:List UInt8) AA).1 AA AA<|GA.Dn Z fun w Z=>RG.cat (t:=9) (s:=Bs (Int.tdiv n 10)) (u:=[aa]) AA (by have q1:=BP (0 - n); have q2:=BP (Int.tdiv n 10); simp only [List.length_append,List.length_cons,List.length_nil]; omega)<|.r 1<|.d<|T.rt func24 results24 (.string (bs ((Bs (Int.tdiv n 10))++[aa]))) ⟨(congrArg (fun s=>Value.string (bs s)) (by exact YY ‹_› ‹_› ‹_› p1)),Z.xt⟩
theorem EZ (n:Int){F:Nat→Prop}(p0:-99≤n∧n≤99):Calls Tryz.prog 24 [.int .i64 n].toArray w (Am fun rv w'=>rv=.string (bs (Bs n))∧Ext w w'):=by
 have key:∀ (k:Nat) (n:Int) {w:World} {F:Nat→Prop},l6m n< k → -99≤n∧n≤99→Calls Tryz.prog 24 [vI n].toArray w (Am fun rv w'=>rv=.string (bs (Bs n))∧Ext w w'):=by
  intro k
  induction k with
  | zero=>intro n w F h _; omega
  | succ k ih=>intro n w F h hp; exact Mm n (F:=F) (fun m w F hm hq=>ih m (F:=F) AB hq) hp
 exact key (l6m n+1) n (F:=F) AB p0
end Go.Proofs.YtfninflnngpchaaGreatDoor
namespace Go.Proofs.YtfninflnngpchaaGreatDoor
set_option maxRecDepth 100000
set_option maxHeartbeats 4000000
variable {w:World} {F:Nat→Prop} {a1:Option Addr} {n1 c1:Nat}
theorem Hl (list:List Hit) (h1:RepS w F a1 n1 c1 list) (p0:∀ h∈list,HitD h) (p1:list.length≤6):Calls Tryz.prog 9 [.slice a1 n1 c1].toArray w (Am fun rv w'=>rv=.string (bs (Cl list))∧Ext w w'):=by
 cases h1.len
 refine goT func9 ?_
 have Z:=(St.i0 F w).p h1
 refine .s<|.g<|.r 1<|.d<|.s<|.g<|.r 1<|.d<|.s<|.s<|.g<|.r 1<|.d<|.b 0<|T.Lp ([],(0:Nat)) (fun (out,i)=>([(0,.slice a1 list.length c1),(3,vT out),(4,vI (i:Int))],[],[],list.length - i,(i≤list.length)∧(out.length≤901 * i)∧(out++Cl (list.drop i)=Cl list))) [] Z ⟨AB,AD,AF⟩ ?_
 rintro ⟨out,i⟩ aJ w Z ⟨aA,aB,aC⟩ ah
 refine .s<|.s<|.g<|.r 3<|.bp ((i:Int)< (list.length:Int)) (fun ak=>?_) (fun ak=>.d<|.cf<|.x 0 rfl<|.s<|.g<|.r 2<|.d<|T.rt func9 results9 (vT out) ⟨(congrArg (fun s=>Value.string (bs s)) (by exact U5 ‹_› AB)),Z.xt⟩)
 refine .d<|.ct<|.sk<|.s<|.b 1<|.s<|.g<|.r 3<|gx list i fun af ae=>?_
 have aD:=drop_at ae; have ax:=AV ae
 refine RG.Ix 0 ae Z<|.r 1<|Z.el 0 ae fun aK aL Z=>?_
 have aE:=Z.mf 1 af.rows
 refine RG.Lh 0 0 Z<|RG.cat (t:=9) (s:=out) (u:=af.name) AA (by have q1:=p0 _ (by assumption:_∈list); have q2:=q1.n; omega)<|.r 1<|.d<|.s<|.s<|.g<|.r 1<|.d<|.b 2<|T.Lp ((out++af.name),(0:Nat)) (fun (aa,k)=>([(0,.slice a1 list.length c1),(3,vT aa),(4,vI (i:Int)),(5,vI (k:Int))],[],[],af.rows.length - k,(k≤af.rows.length)∧(aa.length≤901 * i+100+8 * k)∧(aa++GU (af.rows.drop k)=(out++af.name)++GU af.rows))) [] Z ⟨AB,(by have q1:=p0 _ (by assumption:_∈list); simp only [List.length_append]; have q2:=q1.n; omega),AF⟩ ?_
 rintro ⟨aa,k⟩ aM w Z ⟨aF,aG,aH⟩ aj
 refine .s<|.s<|.g<|.r 3<|RG.Ix 2 ae Z<|.r 1<|RG.Lh 0 1 Z<|.r 1<|.bp ((k:Int)< (af.rows.length:Int)) (fun ar=>?_) (fun ar=>.d<|.cf<|.x 2 rfl<|.g<|.r 1<|RG.cat (t:=9) (s:=aa) (u:=[10]) AA (by have q1:=p0 _ (by assumption:_∈list); have q3:=q1.l; (simp only [List.length_append,List.length_cons,List.length_nil]; omega))<|.r 1<|.d<|.ib 1<|.g<|.r 1<|.it ((i:Int)+1)<|.r 1<|.d<|ah ((aa++[10]),i+1) _ _ AA (Z.to 0 [] 2) ⟨AB,(by have q1:=p0 _ (by assumption:_∈list); have q2:=q1.l; simp only [List.length_append,List.length_cons,List.length_nil]; omega),(by exact Rl ‹_› ‹_› (U4 ‹_› AB) rfl)⟩ (by (simp only []; omega)))
 refine .d<|.ct<|.sk<|.s<|.b 3<|T.Gd 24 Z fun w Z=>.r [0]<|GA.cat (i:=1) (t:=9) (s:=aa) (u:=[32]) AA AA (by have q1:=p0 _ (by assumption:_∈list); have q3:=q1.l; (simp only [List.length_append,List.length_cons,List.length_nil]; omega))<|.r [2,3]<|GA.Ix 4 2 ae Z<|.r [5]<|GA.Lh 6 0 1 Z<|.r [7]<|gx af.rows k fun ab ag=>?_
 have aI:=drop_at ag; have ay:=AV ag
 exact GA.Ix 8 1 ag Z<|.r [9]<|Z.el 1 ag fun Z=>GA.Lh 10 0 0 Z<|GA.C0 11 Z (fun w Z=>EZ ab.t (by have q1:=p0 _ (by assumption:_∈list); have q2:=q1.r _ ‹_›; omega) (F:=all))<|GA.cat (i:=12) (t:=9) (s:=(aa++[32])) (u:=Bs ab.t) AA AA (by have q1:=p0 _ (by assumption:_∈list); have q3:=q1.l; (simp only [List.length_append,List.length_cons,List.length_nil]; (have q4:=BP ab.t; omega)))<|GA.cat (i:=13) (t:=9) (s:=((aa++[32])++(Bs ab.t))) (u:=[58]) AA AA (by have q1:=p0 _ (by assumption:_∈list); have q3:=q1.l; (simp only [List.length_append,List.length_cons,List.length_nil]; (have q4:=BP ab.t; omega)))<|.r [14,15]<|GA.Ix 16 3 ae Z<|.r [17]<|GA.Lh 18 1 1 Z<|.r [19]<|GA.Ix 20 2 ag Z<|.r [21]<|GA.Lh 22 0 1 Z<|GA.C0 23 Z (fun w Z=>EZ ab.v (by have q1:=p0 _ (by assumption:_∈list); have q2:=q1.r _ ‹_›; omega) (F:=all))<|GA.Dn Z fun w Z=>RG.cat (t:=9) (s:=(((aa++[32])++(Bs ab.t))++[58])) (u:=Bs ab.v) AA (by have q1:=p0 _ (by assumption:_∈list); have q3:=q1.l; (simp only [List.length_append,List.length_cons,List.length_nil]; (have q4:=BP ab.t; have q5:=BP ab.v; omega)))<|.r 1<|.d<|.ib 3<|.g<|.r 1<|.it ((k:Int)+1)<|.r 1<|.d<|aj (((((aa++[32])++(Bs ab.t))++[58])++(Bs ab.v)),k+1) _ _ AA (Z.to 0 [] 1) ⟨AB,(by have q2:=MP ab; simp only [Pk,List.length_append,List.length_cons,List.length_nil] at q2 ⊢; omega),(by exact Rk ‹_› ‹_› (by simp [Pk]))⟩ (by (simp only []; omega))
theorem Eu (words:List Txt) (k:Int) (h1:RepS w F a1 n1 c1 words) (p0:0≤k) (p1:∀ t∈words,t.s.length≤1000):Calls Tryz.prog 18 [.slice a1 n1 c1,.int .i64 k].toArray w (Am fun rv w'=>rv=.int .i64 (Aw words ((k:Int).toNat))∧Ext w w'):=by
 cases h1.len
 refine goT func18 ?_
 have Z:=(St.i0 F w).p h1
 have aN:=h1.max
 refine .s<|.g<|.r 1<|.d<|.s<|.s<|.g<|.r 3<|.bp (k≥(words.length:Int)) (fun az=>.d<|.ct<|.s<|.g<|.r 1<|.d<|T.rt func18 results18 (vI (-999)) ⟨(congrArg (Value.int .i64) (by rw [Wn AB])),Z.xt⟩) fun az=>.d<|.cf<|.sk<|.s<|.g<|.r 2<|gx words (k.toNat) fun aa af=>?_
 refine RG.Jx 0 k af Z<|Z.el 0 af fun Z=>RG.Lh 0 0 Z<|.r 1<|.d<|.s<|.g<|.r 1<|.d<|.s<|.s<|.g<|.r 1<|RG.eqv (v:=vI (aa.s.length:Int)) AA (CZ aa.s)<|.bp ((aa.s.length:Int) > 1) (fun aA=>?_) (fun aA=>?_)
 ·refine .r 2 ?_
  obtain ⟨aB,aq⟩:∃ y,aa.s[0]? = some y:=⟨_,AU AB⟩
  refine RG.GZ (t:=9) (s:=aa.s) (k:=.i64) (i:=0) 0 AA AA AB aq<|.eq (aB.toNat:Int) 45 (fun aC=>?_) (fun aC=>?_)
  ·refine .r 1<|.d<|.ct<|.s<|.g<|.r 1<|.d<|.g<|.r 1<|RG.H3 (t:=9) (lo:=some (vI 1)) (hi:=none) (s:=aa.s) 1 aa.s.length AA AA (.inr ⟨_,_,rfl,by omega⟩) (.inl ⟨rfl,rfl⟩) AB AB<|.r 1<|.d<|.s<|.g<|.r 1<|.d<|.s<|.s<|.g<|.r 1<|RG.eqv (v:=vI (((aa.s.take aa.s.length).drop 1).length:Int)) AA (CZ ((aa.s.take aa.s.length).drop 1))<|RG.C0 (CF (((aa.s.take aa.s.length).drop 1).length:Int) 1 2 (F:=all)) Z fun w Z=>?_
   cases ar:(inR (((aa.s.take aa.s.length).drop 1).length:Int) 1 2)
   ·exact .r 1<|.d<|.ct<|.s<|.g<|.r 1<|.d<|T.rt func18 results18 (vI (-999)) ⟨(congrArg (Value.int .i64) (by rw [Da ‹_›,(OS ‹_› ‹_› ‹_›),(JS ‹_›)])),Z.xt⟩
   have aS:=BW ar
   refine .r 1<|.d<|.cf<|.sk<|.s<|.s<|.g<|.r 1<|.d<|.b 0<|T.Lp ((0:Int),(0:Nat)) (fun (n,i)=>([(5,.string (bs ((aa.s.take aa.s.length).drop 1))),(6,vI (-1)),(7,vI n),(8,vI (i:Int))],[],[],(((aa.s.take aa.s.length).drop 1)).length - i,(i≤(((aa.s.take aa.s.length).drop 1)).length)∧(0≤n)∧(Lib.decFrom n.toNat ((((aa.s.take aa.s.length).drop 1)).drop i)=Lib.decFrom 0 (((aa.s.take aa.s.length).drop 1)))∧(n≤99)∧(i≤1→n≤9)∧(i=0→n=0))) [] Z ⟨AB,AB,AF,AB,AB,AB⟩ ?_
   rintro ⟨n,i⟩ bF w Z ⟨aT,aU,aV,aW,aX,aY⟩ ak
   refine .s<|.s<|.g<|.r 2<|RG.eqv (v:=vI (((aa.s.take aa.s.length).drop 1).length:Int)) AA (CZ ((aa.s.take aa.s.length).drop 1))<|.bp ((i:Int)< (((aa.s.take aa.s.length).drop 1).length:Int)) (fun aD=>?_) (fun aD=>.d<|.cf<|.x 0 rfl<|.s<|.g<|.r 2<|RG.int ((-1) * n) AA AB<|.r 1<|.d<|T.rt func18 results18 (vI ((-1) * n)) ⟨(congrArg (Value.int .i64) (by rw [Da ‹_›,(OS ‹_› ‹_› ‹_›),(KK ‹_› ‹_› (Qd ‹_› AB))])),Z.xt⟩)
   refine .d<|.ct<|.sk<|.s<|.b 1<|.s<|.s<|.g<|.r 2 ?_
   obtain ⟨ab,ah⟩:∃ y,((aa.s.take aa.s.length).drop 1)[i]? = some y:=⟨_,AU AB⟩
   have aZ:=UInt8.toNat_lt ab; have ba:=drop_at ah
   exact RG.GZ (t:=9) (s:=((aa.s.take aa.s.length).drop 1)) (k:=.i64) (i:=(i:Int)) i AA AA AB ah<|.bp ((ab.toNat:Int)< 48) (fun aE=>.r 6<|.d<|.ct<|.s<|.g<|.r 1<|.d<|T.rt func18 results18 (vI (-999)) ⟨(congrArg (Value.int .i64) (by rw [Da ‹_›,(OS ‹_› ‹_› ‹_›),(FY ‹_› (NT ‹_› ‹_› (.inl ‹_›)))])),Z.xt⟩) fun aE=>.r 3<|RG.GZ (t:=9) (s:=((aa.s.take aa.s.length).drop 1)) (k:=.i64) (i:=(i:Int)) i AA AA AB ah<|.bp ((ab.toNat:Int) > 57) (fun aF=>.r 1<|.d<|.ct<|.s<|.g<|.r 1<|.d<|T.rt func18 results18 (vI (-999)) ⟨(congrArg (Value.int .i64) (by rw [Da ‹_›,(OS ‹_› ‹_› ‹_›),(FY ‹_› (NT ‹_› ‹_› (.inr ‹_›)))])),Z.xt⟩) fun aF=>.r 1<|.d<|.cf<|.sk<|.g<|.r 1<|RG.int (10 * n) AA AB<|.r 2<|RG.GZ (t:=9) (s:=((aa.s.take aa.s.length).drop 1)) (k:=.i64) (i:=(i:Int)) i AA AA AB ah<|RG.eqv (v:=.int .u8 ((ab.toNat:Int) - 48)) (v':=.int .u8 (IntKind.u8.wrap ((ab.toNat:Int) - 48))) AA (u8_in AB)<|.it ((ab.toNat:Int) - 48)<|RG.int (10 * n+((ab.toNat:Int) - 48)) AA AB<|.r 1<|.d<|.ib 1<|.g<|.r 1<|RG.int ((i:Int)+1) AA AB<|.r 1<|.d<|ak (10 * n+((ab.toNat:Int) - 48),i+1) _ _ AA (Z.to 0 [] 0) ⟨AB,AB,(by exact MQ ‹_› ‹_› ‹_› ‹_› ‹_›),(by have q1:=BW (by assumption:inR _ 1 2=true); omega),AB,AB⟩ (by (simp only []; omega))
  refine .r 1<|.d<|.cf<|.sk<|.s<|.g<|.r 1<|.d<|.s<|.s<|.g<|.r 1<|RG.eqv (v:=vI (aa.s.length:Int)) AA (CZ aa.s)<|RG.C0 (CF (aa.s.length:Int) 1 2 (F:=all)) Z fun w Z=>?_
  cases ax:(inR (aa.s.length:Int) 1 2)
  ·exact .r 1<|.d<|.ct<|.s<|.g<|.r 1<|.d<|T.rt func18 results18 (vI (-999)) ⟨(congrArg (Value.int .i64) (by rw [Da ‹_›,(Hb (.inr ⟨_,by assumption,by assumption⟩)),(JS ‹_›)])),Z.xt⟩
  have bg:=BW ax
  refine .r 1<|.d<|.cf<|.sk<|.s<|.s<|.g<|.r 1<|.d<|.b 0<|T.Lp ((0:Int),(0:Nat)) (fun (n,i)=>([(5,vT aa.s),(6,vI 1),(7,vI n),(8,vI (i:Int))],[],[],aa.s.length - i,(i≤aa.s.length)∧(0≤n)∧(Lib.decFrom n.toNat (aa.s.drop i)=Lib.decFrom 0 (aa.s))∧(n≤99)∧(i≤1→n≤9)∧(i=0→n=0))) [] Z ⟨AB,AB,AF,AB,AB,AB⟩ ?_
  rintro ⟨n,i⟩ bG w Z ⟨bh,bi,bj,bk,bm,bn⟩ am
  refine .s<|.s<|.g<|.r 2<|RG.eqv (v:=vI (aa.s.length:Int)) AA (CZ aa.s)<|.bp ((i:Int)< (aa.s.length:Int)) (fun aG=>?_) (fun aG=>.d<|.cf<|.x 0 rfl<|.s<|.g<|.r 2<|RG.int (1 * n) AA AB<|.r 1<|.d<|T.rt func18 results18 (vI (1 * n)) ⟨(congrArg (Value.int .i64) (by rw [Da ‹_›,(Hb (.inr ⟨_,by assumption,by assumption⟩)),(KK ‹_› ‹_› (Qd ‹_› AB))])),Z.xt⟩)
  refine .d<|.ct<|.sk<|.s<|.b 1<|.s<|.s<|.g<|.r 2 ?_
  obtain ⟨ac,ai⟩:∃ y,aa.s[i]? = some y:=⟨_,AU AB⟩
  have bo:=UInt8.toNat_lt ac; have bq:=drop_at ai
  exact RG.GZ (t:=9) (s:=aa.s) (k:=.i64) (i:=(i:Int)) i AA AA AB ai<|.bp ((ac.toNat:Int)< 48) (fun aH=>.r 6<|.d<|.ct<|.s<|.g<|.r 1<|.d<|T.rt func18 results18 (vI (-999)) ⟨(congrArg (Value.int .i64) (by rw [Da ‹_›,(Hb (.inr ⟨_,by assumption,by assumption⟩)),(FY ‹_› (NT ‹_› ‹_› (.inl ‹_›)))])),Z.xt⟩) fun aH=>.r 3<|RG.GZ (t:=9) (s:=aa.s) (k:=.i64) (i:=(i:Int)) i AA AA AB ai<|.bp ((ac.toNat:Int) > 57) (fun aI=>.r 1<|.d<|.ct<|.s<|.g<|.r 1<|.d<|T.rt func18 results18 (vI (-999)) ⟨(congrArg (Value.int .i64) (by rw [Da ‹_›,(Hb (.inr ⟨_,by assumption,by assumption⟩)),(FY ‹_› (NT ‹_› ‹_› (.inr ‹_›)))])),Z.xt⟩) fun aI=>.r 1<|.d<|.cf<|.sk<|.g<|.r 1<|RG.int (10 * n) AA AB<|.r 2<|RG.GZ (t:=9) (s:=aa.s) (k:=.i64) (i:=(i:Int)) i AA AA AB ai<|RG.eqv (v:=.int .u8 ((ac.toNat:Int) - 48)) (v':=.int .u8 (IntKind.u8.wrap ((ac.toNat:Int) - 48))) AA (u8_in AB)<|.it ((ac.toNat:Int) - 48)<|RG.int (10 * n+((ac.toNat:Int) - 48)) AA AB<|.r 1<|.d<|.ib 1<|.g<|.r 1<|RG.int ((i:Int)+1) AA AB<|.r 1<|.d<|am (10 * n+((ac.toNat:Int) - 48),i+1) _ _ AA (Z.to 0 [] 0) ⟨AB,AB,(by exact MQ ‹_› ‹_› ‹_› ‹_› ‹_›),(by have q1:=BW (by assumption:inR _ 1 2=true); omega),AB,AB⟩ (by (simp only []; omega))
 refine .r 5<|.d<|.cf<|.sk<|.s<|.g<|.r 1<|.d<|.s<|.s<|.g<|.r 1<|RG.eqv (v:=vI (aa.s.length:Int)) AA (CZ aa.s)<|RG.C0 (CF (aa.s.length:Int) 1 2 (F:=all)) Z fun w Z=>?_
 cases ay:(inR (aa.s.length:Int) 1 2)
 ·exact .r 1<|.d<|.ct<|.s<|.g<|.r 1<|.d<|T.rt func18 results18 (vI (-999)) ⟨(congrArg (Value.int .i64) (by rw [Da ‹_›,(Hb (.inl ‹_›)),(JS ‹_›)])),Z.xt⟩
 have bu:=BW ay
 refine .r 1<|.d<|.cf<|.sk<|.s<|.s<|.g<|.r 1<|.d<|.b 0<|T.Lp ((0:Int),(0:Nat)) (fun (n,i)=>([(5,vT aa.s),(6,vI 1),(7,vI n),(8,vI (i:Int))],[],[],aa.s.length - i,(i≤aa.s.length)∧(0≤n)∧(Lib.decFrom n.toNat (aa.s.drop i)=Lib.decFrom 0 (aa.s))∧(n≤99)∧(i≤1→n≤9)∧(i=0→n=0))) [] Z ⟨AB,AB,AF,AB,AB,AB⟩ ?_
 rintro ⟨n,i⟩ bH w Z ⟨bv,bw,bz,bA,bB,bC⟩ ao
 refine .s<|.s<|.g<|.r 2<|RG.eqv (v:=vI (aa.s.length:Int)) AA (CZ aa.s)<|.bp ((i:Int)< (aa.s.length:Int)) (fun aJ=>?_) (fun aJ=>.d<|.cf<|.x 0 rfl<|.s<|.g<|.r 2<|RG.int (1 * n) AA AB<|.r 1<|.d<|T.rt func18 results18 (vI (1 * n)) ⟨(congrArg (Value.int .i64) (by rw [Da ‹_›,(Hb (.inl ‹_›)),(KK ‹_› ‹_› (Qd ‹_› AB))])),Z.xt⟩)
 refine .d<|.ct<|.sk<|.s<|.b 1<|.s<|.s<|.g<|.r 2 ?_
 obtain ⟨ae,aj⟩:∃ y,aa.s[i]? = some y:=⟨_,AU AB⟩
 have bD:=UInt8.toNat_lt ae; have bE:=drop_at aj
 exact RG.GZ (t:=9) (s:=aa.s) (k:=.i64) (i:=(i:Int)) i AA AA AB aj<|.bp ((ae.toNat:Int)< 48) (fun aK=>.r 6<|.d<|.ct<|.s<|.g<|.r 1<|.d<|T.rt func18 results18 (vI (-999)) ⟨(congrArg (Value.int .i64) (by rw [Da ‹_›,(Hb (.inl ‹_›)),(FY ‹_› (NT ‹_› ‹_› (.inl ‹_›)))])),Z.xt⟩) fun aK=>.r 3<|RG.GZ (t:=9) (s:=aa.s) (k:=.i64) (i:=(i:Int)) i AA AA AB aj<|.bp ((ae.toNat:Int) > 57) (fun aL=>.r 1<|.d<|.ct<|.s<|.g<|.r 1<|.d<|T.rt func18 results18 (vI (-999)) ⟨(congrArg (Value.int .i64) (by rw [Da ‹_›,(Hb (.inl ‹_›)),(FY ‹_› (NT ‹_› ‹_› (.inr ‹_›)))])),Z.xt⟩) fun aL=>.r 1<|.d<|.cf<|.sk<|.g<|.r 1<|RG.int (10 * n) AA AB<|.r 2<|RG.GZ (t:=9) (s:=aa.s) (k:=.i64) (i:=(i:Int)) i AA AA AB aj<|RG.eqv (v:=.int .u8 ((ae.toNat:Int) - 48)) (v':=.int .u8 (IntKind.u8.wrap ((ae.toNat:Int) - 48))) AA (u8_in AB)<|.it ((ae.toNat:Int) - 48)<|RG.int (10 * n+((ae.toNat:Int) - 48)) AA AB<|.r 1<|.d<|.ib 1<|.g<|.r 1<|RG.int ((i:Int)+1) AA AB<|.r 1<|.d<|ao (10 * n+((ae.toNat:Int) - 48),i+1) _ _ AA (Z.to 0 [] 0) ⟨AB,AB,(by exact MQ ‹_› ‹_› ‹_› ‹_› ‹_›),(by have q1:=BW (by assumption:inR _ 1 2=true); omega),AB,AB⟩ (by (simp only []; omega))
end Go.Proofs.YtfninflnngpchaaGreatDoor
