/- parts -/
import Derived.Test.YtpmbddooibgnaaaGreatDoorS2
import Derived.Test.YtpmbddooibgnaaaGreatDoorS8
import Derived.Test.YtpmbddooibgnaaaGreatDoorS14
set_option maxRecDepth 100000
set_option maxHeartbeats 8000000
set_option linter.all false
namespace Go.Proofs.YtpmbddooibgnaaaGreatDoor
open Go.RowKit
abbrev Pc:=Int×ByteArray
def uS (ps:List Pc):List Value:=ps.flatMap fun p=>[.int .i64 p.1,.string p.2]
def Ng (w:World)(S:Nat->Prop)(v:Value)(ps:List Pc):Prop:=aW w S 2 v ps.length (uS ps)
theorem DT (ps:List Pc):∀i (h:i<ps.length),(uS ps)[i*2]? =some (.int .i64 ps[i].1)/\(uS ps)[i*2+1]? =some (.string ps[i].2):=by
 induction ps with
 |nil=>intro i h;simp at h
 |cons p ps ih=>
  intro i h
  cases i with
  |zero=>exact⟨rfl,rfl⟩
  |succ i=>
   have:=ih i (by simpa using h)
   rw[P6]
   exact this
theorem Ng.at {w:World}{S:Nat->Prop}{v:Value}{ps:List Pc}{ao:Option Addr}{n c:Nat}(h:Ng w S v ps)(hv:v= .slice ao n c)(i:Nat)(hi:i<ps.length):
  ∃b o,ao=some ⟨b,o,none⟩/\w.cell? ⟨b,o+i*2,none⟩=some (.int .i64 ps[i].1)/\w.cell? ⟨b,o+i*2+1,none⟩=some (.string ps[i].2):=by
 obtain⟨ao',c',rfl,_,_,_,_,_,h6⟩:=h
 cases hv
 have hg:=DT ps i hi
 obtain⟨b,o,e,h1⟩:=h6 _ _ hg.1
 obtain⟨b',o',e',h2⟩:=h6 _ _ hg.2
 rw[e] at e'
 cases e'
 exact⟨b,o,e,h1,by rw[kV];exact h2⟩
theorem aQ.base {w:World}{S:Nat->Prop}{B B' e k n:Nat}{v:Value}{xs:List Value}(h:aQ w S B' e k v n xs)(hB:B<=B'):aQ w S B e k v n xs:=by
 refine⟨⟨h.1.1,?_⟩,h.2⟩
 rcases h.1.2 with h0|⟨g,cap,cur,q1,q2,q3⟩
 ·exact .inl h0
 ·exact .inr ⟨g,cap,cur,q1,aG hB q2,q3⟩
end Go.Proofs.YtpmbddooibgnaaaGreatDoor
