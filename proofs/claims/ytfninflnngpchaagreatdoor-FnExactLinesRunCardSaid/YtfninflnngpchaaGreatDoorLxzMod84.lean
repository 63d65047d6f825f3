/- What a line does, as the program does it: plain laws for the walk. -/
import Derived.Test.YtfninflnngpchaaGreatDoorLxzMod88
set_option linter.unusedVariables false
set_option linter.unusedSimpArgs false
namespace Go.Proofs.YtfninflnngpchaaGreatDoor
abbrev w3 (l:Str):List Txt:=AZ l 32++[⟨[]⟩,⟨[]⟩,⟨[]⟩]
section
variable {w:Wld} {l:Str} {t t1 t2 t3:Txt}
theorem f0 (h:(w3 l)[0]? = some t):(AZ l 32)[0]? = some t:=Ql h (CC l 32)
theorem Ni (hl:LnD l) (h1:(w3 l)[1]? = some t1):t1.s.length≤999:=by rw [← E3 h1]; exact Nat.le_trans (GV l 1) hl
theorem Yx (hl:LnD l) (h1:(w3 l)[1]? = some t1):NmD (BQ t1.s).1:=by
 rw [OR _ (Ni hl h1)]
 exact Qk _ (Ni hl h1)
theorem ilA (hl:LnD l) (h0:(w3 l)[0]? = some t) (h:(t.s==Fe)=true) (h1:(w3 l)[1]? = some t1) (hb:(BQ t1.s).2=true) (h2:(w3 l)[2]? = some t2) (h3:(w3 l)[3]? = some t3) :
 Au w l=(doW w ⟨1,0,0,(BQ t1.s).1,⟨BG t2.s,BG t3.s⟩⟩,[]):=by
 have e:=OR _ (Ni hl h1)
 rw [e] at hb ⊢
 rw [JV h2,JV h3,lnA (f0 h0) h (by rw [E3 h1]; exact hb),E3 h1]
theorem Zg (hl:LnD l) (h0:(w3 l)[0]? = some t) (h:(t.s==Fe)=true) (h1:(w3 l)[1]? = some t1) (hb:(BQ t1.s).2=false):Au w l=(w,IJ):=by
 have e:=OR _ (Ni hl h1)
 rw [e] at hb
 exact Ym (f0 h0) h (by rw [E3 h1]; exact hb)
theorem ilF (h0:(w3 l)[0]? = some t) (g0:(t.s==Fe)=false) (h:(t.s==C2)=true):Au w l=(doW w ⟨2,0,if (1:Int)≥(AZ l 32).length then 9 else Aw (AZ l 32) (1:Int).toNat,[],⟨0,0⟩⟩,[]):=lnF (f0 h0) g0 h
theorem ilM (h0:(w3 l)[0]? = some t) (g0:(t.s==Fe)=false) (g1:(t.s==C2)=false) (h:(t.s==C3)=true) (h1:(w3 l)[1]? = some t1):Au w l=(doW w ⟨3,BG t1.s,if (2:Int)≥(AZ l 32).length then 9 else Aw (AZ l 32) (2:Int).toNat,[],⟨0,0⟩⟩,[]):=by
 rw [JV h1]
 exact lnM (f0 h0) g0 g1 h
theorem ilX (h0:(w3 l)[0]? = some t) (g0:(t.s==Fe)=false) (g1:(t.s==C2)=false) (g2:(t.s==C3)=false) (h:(t.s==He)=true):Au w l=(doW w ⟨4,0,0,[],⟨0,0⟩⟩,[]):=lnX (f0 h0) g0 g1 g2 h
theorem ilK (hl:LnD l) (h0:(w3 l)[0]? = some t) (g0:(t.s==Fe)=false) (g1:(t.s==C2)=false) (g2:(t.s==C3)=false) (g3:(t.s==He)=false) (h:(t.s==Pq)=true) (h1:(w3 l)[1]? = some t1) (hb:(CW t1.s).2=true) (h2:(w3 l)[2]? = some t2) (h3:(w3 l)[3]? = some t3) :
 Au w l=(w,Cl (By w.store (CW t1.s).1 (BG t2.s) (BG t3.s))):=by
 have e:=Rs _ (Ni hl h1)
 rw [e] at hb ⊢
 rw [JV h2,JV h3,lnK (f0 h0) g0 g1 g2 g3 h (by rw [E3 h1]; exact hb),E3 h1]
theorem Zh (hl:LnD l) (h0:(w3 l)[0]? = some t) (g0:(t.s==Fe)=false) (g1:(t.s==C2)=false) (g2:(t.s==C3)=false) (g3:(t.s==He)=false) (h:(t.s==Pq)=true) (h1:(w3 l)[1]? = some t1) (hb:(CW t1.s).2=false):Au w l=(w,IJ):=by
 have e:=Rs _ (Ni hl h1)
 rw [e] at hb
 exact Yr (f0 h0) g0 g1 g2 g3 h (by rw [E3 h1]; exact hb)
theorem pj {a b c:Int}{k:List Txt}{i:Nat}(h:k++(([a,b,c]:List Int).drop i).map Il=([a,b,c]:List Int).map Il) (hi:3≤i):Lib.join (k.map Txt.s) [32]=Bs a++[32]++Bs b++[32]++Bs c:=by
 rw [CH h hi,Qm]
theorem VQ {a b c:Int}{k:List Txt}{i:Nat}(h:k++(([a,b,c]:List Int).drop i).map Il=([a,b,c]:List Int).map Il) (hi:3≤i):(Lib.join (k.map Txt.s) [32]).length≤100:=by
 rw [pj h hi]
 have h1:=BP a
 have h2:=BP b
 have h3:=BP c
 simp only [List.length_append,List.length_cons,List.length_nil]
 omega
theorem ilP {k:List Txt}{i:Nat}(h0:(w3 l)[0]? = some t) (g0:(t.s==Fe)=false) (g1:(t.s==C2)=false) (g2:(t.s==C3)=false) (g3:(t.s==He)=false) (g4:(t.s==Pq)=false) (h:(t.s==OT)=true)
 (hk:k++(([(w.store.parts.length:Int),(w.store.mem.length:Int),(w.disk.files.length:Int)]:List Int).drop i).map Il=([(w.store.parts.length:Int),(w.store.mem.length:Int),(w.disk.files.length:Int)]:List Int).map Il) (hi:3≤i) :
 Au w l=(w,Lib.join (k.map Txt.s) [32]++[10]):=by
 rw [lnP (f0 h0) g0 g1 g2 g3 g4 h,pj hk hi]
 rfl
theorem ilN (h0:(w3 l)[0]? = some t) (g0:(t.s==Fe)=false) (g1:(t.s==C2)=false) (g2:(t.s==C3)=false) (g3:(t.s==He)=false) (g4:(t.s==Pq)=false) (g5:(t.s==OT)=false):Au w l=(w,IJ):=lnN (f0 h0) g0 g1 g2 g3 g4 g5
end
end Go.Proofs.YtfninflnngpchaaGreatDoor
