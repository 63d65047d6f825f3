/- What a line does, as the program does it: plain laws for the walk. -/
import Derived.Test.YtckdhcbbgmiccaaGreatDoorLdzMod82
set_option linter.unusedVariables false
set_option linter.unusedSimpArgs false
namespace Go.Proofs.YtckdhcbbgmiccaaGreatDoor
abbrev w3 (l:Str):List Txt:=AZ l 32++[⟨[]⟩,⟨[]⟩,⟨[]⟩]
section
variable {w:Wld} {l:Str} {t t1 t2 t3:Txt}
theorem f0 (h:(w3 l)[0]? = some t):(AZ l 32)[0]? = some t:=RI h (Ch l 32)
theorem OA (hl:LnD l) (h1:(w3 l)[1]? = some t1):t1.s∈WL:=by rw [← E8 h1]; exact hl
theorem ZX (hl:LnD l) (h1:(w3 l)[1]? = some t1):NmD (Ba t1.s).1:=by
 rw [Oq _ (OA hl h1)]
 exact RE _ (OA hl h1)
theorem ilA (hl:LnD l) (h0:(w3 l)[0]? = some t) (h:(t.s==Fs)=true) (h1:(w3 l)[1]? = some t1) (hb:(Ba t1.s).2=true) (h2:(w3 l)[2]? = some t2) (h3:(w3 l)[3]? = some t3) :
 Ax w l=(doW w ⟨1,0,0,(Ba t1.s).1,⟨BK t2.s,BK t3.s⟩⟩,[]):=by
 have e:=Oq _ (OA hl h1)
 rw [e] at hb ⊢
 rw [Jr h2,Jr h3,lnA (f0 h0) h (by rw [E8 h1]; exact hb),E8 h1]
theorem oF (hl:LnD l) (h0:(w3 l)[0]? = some t) (h:(t.s==Fs)=true) (h1:(w3 l)[1]? = some t1) (hb:(Ba t1.s).2=false):Ax w l=(w,GC):=by
 have e:=Oq _ (OA hl h1)
 rw [e] at hb
 exact ZM (f0 h0) h (by rw [E8 h1]; exact hb)
theorem ilF (h0:(w3 l)[0]? = some t) (g0:(t.s==Fs)=false) (h:(t.s==DC)=true):Ax w l=(doW w ⟨2,0,if (1:Int)≥(AZ l 32).length then 9 else Az (AZ l 32) (1:Int).toNat,[],⟨0,0⟩⟩,[]):=lnF (f0 h0) g0 h
theorem ilM (h0:(w3 l)[0]? = some t) (g0:(t.s==Fs)=false) (g1:(t.s==DC)=false) (h:(t.s==DE)=true) (h1:(w3 l)[1]? = some t1):Ax w l=(doW w ⟨3,BK t1.s,if (2:Int)≥(AZ l 32).length then 9 else Az (AZ l 32) (2:Int).toNat,[],⟨0,0⟩⟩,[]):=by
 rw [Jr h1]
 exact lnM (f0 h0) g0 g1 h
theorem ilX (h0:(w3 l)[0]? = some t) (g0:(t.s==Fs)=false) (g1:(t.s==DC)=false) (g2:(t.s==DE)=false) (h:(t.s==Hq)=true):Ax w l=(doW w ⟨4,0,0,[],⟨0,0⟩⟩,[]):=lnX (f0 h0) g0 g1 g2 h
theorem ilK (hl:LnD l) (h0:(w3 l)[0]? = some t) (g0:(t.s==Fs)=false) (g1:(t.s==DC)=false) (g2:(t.s==DE)=false) (g3:(t.s==Hq)=false) (h:(t.s==QN)=true) (h1:(w3 l)[1]? = some t1) (hb:(Di t1.s).2=true) (h2:(w3 l)[2]? = some t2) (h3:(w3 l)[3]? = some t3) :
 Ax w l=(w,Cc (Bt w.store (Di t1.s).1 (BK t2.s) (BK t3.s))):=by
 have e:=SO _ (OA hl h1)
 rw [e] at hb ⊢
 rw [Jr h2,Jr h3,lnK (f0 h0) g0 g1 g2 g3 h (by rw [E8 h1]; exact hb),E8 h1]
theorem oG (hl:LnD l) (h0:(w3 l)[0]? = some t) (g0:(t.s==Fs)=false) (g1:(t.s==DC)=false) (g2:(t.s==DE)=false) (g3:(t.s==Hq)=false) (h:(t.s==QN)=true) (h1:(w3 l)[1]? = some t1) (hb:(Di t1.s).2=false):Ax w l=(w,GC):=by
 have e:=SO _ (OA hl h1)
 rw [e] at hb
 exact ZR (f0 h0) g0 g1 g2 g3 h (by rw [E8 h1]; exact hb)
theorem pj {a b c:Int}{k:List Txt}{i:Nat}(h:k++(([a,b,c]:List Int).drop i).map Iz=([a,b,c]:List Int).map Iz) (hi:3≤i):Lib.join (k.map Txt.s) [32]=BF a++[32]++BF b++[32]++BF c:=by
 rw [CW h hi,RJ]
theorem Vy {a b c:Int}{k:List Txt}{i:Nat}(h:k++(([a,b,c]:List Int).drop i).map Iz=([a,b,c]:List Int).map Iz) (hi:3≤i):(Lib.join (k.map Txt.s) [32]).length≤100:=by
 rw [pj h hi]
 have h1:=Au a
 have h2:=Au b
 have h3:=Au c
 simp only [List.length_append,List.length_cons,List.length_nil]
 omega
theorem ilP {k:List Txt}{i:Nat}(h0:(w3 l)[0]? = some t) (g0:(t.s==Fs)=false) (g1:(t.s==DC)=false) (g2:(t.s==DE)=false) (g3:(t.s==Hq)=false) (g4:(t.s==QN)=false) (h:(t.s==O2)=true)
 (hk:k++(([(w.store.parts.length:Int),(w.store.mem.length:Int),(w.disk.files.length:Int)]:List Int).drop i).map Iz=([(w.store.parts.length:Int),(w.store.mem.length:Int),(w.disk.files.length:Int)]:List Int).map Iz) (hi:3≤i) :
 Ax w l=(w,Lib.join (k.map Txt.s) [32]++[10]):=by
 rw [lnP (f0 h0) g0 g1 g2 g3 g4 h,pj hk hi]
 rfl
theorem ilN (h0:(w3 l)[0]? = some t) (g0:(t.s==Fs)=false) (g1:(t.s==DC)=false) (g2:(t.s==DE)=false) (g3:(t.s==Hq)=false) (g4:(t.s==QN)=false) (g5:(t.s==O2)=false):Ax w l=(w,GC):=lnN (f0 h0) g0 g1 g2 g3 g4 g5
end
end Go.Proofs.YtckdhcbbgmiccaaGreatDoor
