/- parts -/
import Derived.Test.YtpmbddooibgnaaaGreatDoorN2
import Derived.Test.YtpmbddooibgnaaaGreatDoorN8
import Derived.Test.YtpmbddooibgnaaaGreatDoorN14
set_option maxRecDepth 100000
set_option maxHeartbeats 8000000
set_option linter.all false
namespace Go.Proofs.YtpmbddooibgnaaaGreatDoor
open Go.RowKit
abbrev Pc:=Int×ByteArray
def xZ (ps:List Pc):List Value:=ps.flatMap fun p=>[.int .i64 p.1,.string p.2]
def QS (w:World)(S:Nat->Prop)(v:Value)(ps:List Pc):Prop:=bq w S 2 v ps.length (xZ ps)
theorem Gd (a:List Pc):∀i (h:i<a.length),(xZ a)[i*2]? =some (.int .i64 a[i].1)/\(xZ a)[i*2+1]? =some (.string a[i].2):=by
 induction a with
 |nil=>intro i h;simp at h
 |cons p a ih=>
  intro i h
  cases i with
  |zero=>exact⟨rfl,rfl⟩
  |succ i=>
   have:=ih i (by simpa using h)
   rw[Uf]
   exact this
theorem QS.at {w:World}{S:Nat->Prop}{v:Value}{a:List Pc}{j:Option Addr}{n c:Nat}(h:QS w S v a)(q:v= .slice j n c)(i:Nat)(p:i<a.length):
  ∃b o,j=some ⟨b,o,none⟩/\w.cell? ⟨b,o+i*2,none⟩=some (.int .i64 a[i].1)/\w.cell? ⟨b,o+i*2+1,none⟩=some (.string a[i].2):=by
 obtain⟨l,r,rfl,_,_,_,_,_,g⟩:=h
 cases q
 have f:=Gd a i p
 obtain⟨b,o,e,m⟩:=g _ _ f.1
 obtain⟨s,t,d,k⟩:=g _ _ f.2
 rw[e] at d
 cases d
 exact⟨b,o,e,m,by rw[mR];exact k⟩
theorem aV.base {w:World}{S:Nat->Prop}{B c e k n:Nat}{v:Value}{d:List Value}(h:aV w S c e k v n d)(hB:B<=c):aV w S B e k v n d:=by
 refine⟨⟨h.1.1,?_⟩,h.2⟩
 rcases h.1.2 with f|⟨g,b,a,i,l,j⟩
 ·exact .inl f
 ·exact .inr ⟨g,b,a,i,aI hB l,j⟩
end Go.Proofs.YtpmbddooibgnaaaGreatDoor
