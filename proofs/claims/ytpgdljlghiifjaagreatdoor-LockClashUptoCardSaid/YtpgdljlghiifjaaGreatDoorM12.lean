/- parts -/
import Derived.Test.YtpgdljlghiifjaaGreatDoorM3
import Derived.Test.YtpgdljlghiifjaaGreatDoorM11
set_option maxRecDepth 100000
set_option maxHeartbeats 8000000
set_option linter.all false
namespace Go.Proofs.YtpgdljlghiifjaaGreatDoor
open Go.RowKit
theorem uj {α:Type}(X b:List α)(off:Nat)(h:off+b.length<=X.length):(splice X off b).take (off+b.length)=X.take off++b:=by
 unfold splice
 rw[<-aN,bU (by simp only[ay,aF];omega),aQ (by simp only[ay,aF];omega)]
theorem l9 {α:Type}(X b:List α)(off t:Nat)(ht:t<=off)(h:off<=X.length):(splice X off b).take t=X.take t:=by
 unfold splice
 rw[bU (by rw[aF];omega),dJ,bQ ht]
theorem G7 {α:Type}(X b:List α)(off:Nat)(h:off<=X.length):(splice X off b).drop off=b++X.drop (off+b.length):=by
 unfold splice
 rw[fF (by rw[aF];omega),dZ (by rw[aF];omega),dB]
theorem qy {α:Type}(X b:List α)(off t:Nat)(ht:off+b.length<=t)(h:off<=X.length):(splice X off b).drop t=X.drop t:=by
 obtain⟨d,rfl⟩:∃d,t=off+b.length+d:=⟨t - (off+b.length),by omega⟩
 have e:(splice X off b).drop (off+b.length)=X.drop (off+b.length):=by
  unfold splice
  rw[<-aN]
  exact List.drop_left' (by simp only[ay,aF];omega)
 rw[<-K6,e,K6]
theorem Aj {α:Type}(cur news b:List α)(i:Nat)(h:i+news.length+b.length<=cur.length):
  (splice (splice cur i news) (i+news.length) b).length=cur.length/\(splice (splice cur i news) (i+news.length) b).take (i+news.length+b.length)=cur.take i++news++b:=by
 have h1:(splice cur i news).length=cur.length:=eD _ _ _ (by omega)
 exact⟨(eD _ _ _ (by omega)).trans h1,by rw[uj _ _ _ (by omega),uj _ _ _ (by omega)]⟩
theorem Kl {α:Type}(cur news b:List α)(i:Nat)(h:i+news.length+b.length<=cur.length):
  (splice (splice cur (i+news.length) b) i news).length=cur.length/\(splice (splice cur (i+news.length) b) i news).take (i+news.length+b.length)=cur.take i++news++b:=by
 have h1:(splice cur (i+news.length) b).length=cur.length:=eD _ _ _ (by omega)
 refine⟨(eD _ _ _ (by omega)).trans h1,?_⟩
 rw[List.take_add,uj _ _ _ (by omega),l9 _ _ _ _ (by omega) (by omega)]
 congr 1
 rw[qy _ _ _ _ (aG _) (by omega),G7 _ _ _ (by omega),bU (aG _),bP]
theorem CB (g cap n i:Nat)(xs:List Value)(vv:Value)(m:Nat)(news:List Value)(w:World)(S:Nat->Prop)(B:Nat)(hS:∀g,S g->g<w.heap.size)(hB:B<=w.heap.size)(h:aT w S B 9 1 (.slice (some ⟨g,0,none⟩) n cap) n xs)(hv:aT w S B 9 1 vv m news)(hone:∀u∈news,u.oneCell'=true)(hn:n<=1000000)(hm:m<=1000000)(hi:n=i+1)(hm0:0<m):
  Calls Tryz.prog 187 #[.slice (some ⟨g,0,none⟩) n cap,.int .i64 i,.int .i64 ((i:Int)+1),vv] w fun e w'=>∃v',e= .returned v'/\aT w' S B 9 1 v' (i+m) (xs.take i++news)/\Keep (· =g) w w'/\Below B w w':=by
 obtain⟨cur,hr,hl,hx,hBg,hSg,hc,hc2⟩:=h.row
 have hc3:cap<=9223372036854775807:=by simpa [maxLen] using hc2
 have hh:aT w S B 9 1 (.slice (some ⟨g,0,none⟩) i cap) i (xs.take i):=by
  have:=Row.own hr i hl hBg hSg (by omega) hc2
  rwa [show cur.take (i*1)=xs.take i by rw[<-hx,dJ,bg,bg,bQ (by omega)]] at this
 have hsrc:Src Tryz.prog 1 22 vv m news w:=hv.dI.src aY hone
 obtain⟨vo,vc,rfl,v1,v2,v3,v4⟩:=hv.dI.form
 clear h hv hx hl hr
 subst hi
 have k1:(0:Int)<=(i:Int):=by omega
 have k2:(i:Int)<=(cap:Int):=by omega
 have k3:(0:Int)<=(i:Int)+1:=by omega
 have k4:(i:Int)+1<=(cap:Int):=by omega
 have k5:((i:Int)+1).toNat=i+1:=by omega
 have k6:¬(((i+m:Nat):Int)<((i+1:Nat):Int)):=by omega
 have k7:¬((i:Int)+(m:Int)<(i:Int)+1):=by omega
 have Hone:=af hone;clear hone
 go_enter Q8,MU
 go_wp2_with (at_builtin;(refine dQ rfl (.tmp 32) (.tmp 33) 22 22 rfl S B 9 1 16 _ aY gD rfl (.slice (some ⟨g,0,none⟩) i cap) _ _ rfl hh (.slice vo m vc) _ _ rfl hsrc hS hB ?_ ?_ ?_);(focus (unfold maxLen;omega));(focus omega);intro ao1 c1 w1 hown1 hk1 hb1 hd1)
 all_goals
  go_ret
  exact⟨_,rfl,hown1,hk1.mono (fun _ _ h=>by cases h;rfl),hb1⟩
theorem CF (g cap n i:Nat)(xs:List Value)(vv:Value)(w:World)(S:Nat->Prop)(B:Nat)(h:aT w S B 9 1 (.slice (some ⟨g,0,none⟩) n cap) n xs)(hv:aT w S B 9 1 vv 0 [])(hn:n<=1000000)(hi:n=i+1):
  Calls Tryz.prog 187 #[.slice (some ⟨g,0,none⟩) n cap,.int .i64 i,.int .i64 ((i:Int)+1),vv] w fun e w'=>∃v',e= .returned v'/\aT w' S B 9 1 v' i (xs.take i)/\Keep (· =g) w w':=by
 obtain⟨cur,hr,hl,hx,hBg,hSg,hc,hc2⟩:=h.row
 have hc3:cap<=9223372036854775807:=by simpa [maxLen] using hc2
 have hsrc:Src Tryz.prog 1 22 vv 0 [] w:=hv.dI.src aY (by simp)
 obtain⟨vo,vc,rfl,v1,v2,v3,v4⟩:=hv.dI.form
 clear h hv
 subst hi
 have hx':cur.take i=xs.take i:=by rw[<-hx,dJ,bg,bQ (by omega)]
 have hll:cur.length=cap:=by omega
 have e1:splice cur i ([]:List Value)=cur:=by simp[splice]
 have hr0:Row w g 9 (splice cur (i*1) [])->Row w g 9 cur:=by rw[bg,e1];exact id
 have k1:(0:Int)<=(i:Int):=by omega
 have k2:(i:Int)<=(cap:Int):=by omega
 have k3:(0:Int)<=(i:Int)+1:=by omega
 have k4:(i:Int)+1<=(cap:Int):=by omega
 have k5:((i:Int)+1).toNat=i+1:=by omega
 have k6:i+1 - i=1:=by omega
 have k7:¬cap=i:=by omega
 have Hl:=af hll;clear hll hl hx
 have E1:=af e1;clear e1 hr0
 go_enter Q8,MU
 go_wp2_with (first
  |(refine dW rfl ?_;intro K hK;(refine xA (.tmp 32) (.tmp 33) 22 22 rfl 9 1 16 _ aY gD g i cap _ cur rfl hr (.slice vo 0 vc) 0 [] rfl hsrc ?_ ?_ ?_);(focus omega);(focus (have:=Hl.out;simp only[aJ];omega));intro w1 hr1 hk1;refine hK _ _ ?_)
  |(refine dW rfl ?_;intro K hK;(refine kS (.tmp 43) 22 rfl 9 1 16 _ aY gD rfl g i 9 1 _ (some ⟨g,i,none⟩) _ rfl hr1 (fun _=>rfl) ?_ ?_ ?_);(focus (simp only[bg,E1.out,Hl.out];omega));(focus (exact jF _ _ (by simp[Value.cells,Value.oneCell']) (by simp[Value.cells])));intro w2 zs hz hr2 hk2;refine hK _ _ ?_))
 all_goals
  go_ret
  rw[bg,E1.out] at hr2
  have hlz:(splice cur i zs).length=cap:=by rw[eD _ _ _ (by have:=Hl.out;omega)];exact Hl.out
  have:=Row.own (k:=1) hr2 i (by omega) hBg hSg (by omega) hc2
  rw[bg,l9 _ _ _ _ (aG _) (by have:=Hl.out;omega),hx'] at this
  exact⟨_,rfl,this,hk1.trans hk2 (fun _ _ h=>h)⟩
theorem AZ (g cap n i:Nat)(xs:List Value)(vv:Value)(m:Nat)(news:List Value)(w:World)(S:Nat->Prop)(B:Nat)(h:aT w S B 9 1 (.slice (some ⟨g,0,none⟩) n cap) n xs)(hx1:∀u∈xs,u.oneCell'=true)(hv:aT w S B 9 1 vv m news)(hvg:vv.ownBlock≠some g)(hone:∀u∈news,u.oneCell'=true)(hn:n<=1000000)(hi:i+1<n)(hm:m<=1)(N:Nat)(L:List Value)(hN:N=n - 1+m)(hL:L=xs.take i++news++xs.drop (i+1)):
  Calls Tryz.prog 187 #[.slice (some ⟨g,0,none⟩) n cap,.int .i64 i,.int .i64 ((i:Int)+1),vv] w fun e w'=>∃v',e= .returned v'/\aT w' S B 9 1 v' N L/\Keep (· =g) w w':=by
 obtain⟨cur,hr,hl,hx,hBg,hSg,hc,hc2⟩:=h.row
 have hc3:cap<=9223372036854775807:=by simpa [maxLen] using hc2
 have hnl:news.length=m:=by have:=hv.1.1;omega
 have hll:cur.length=cap:=by omega
 have hx':cur.take n=xs:=by rw[<-hx,bg]
 obtain⟨vo,vc,rfl,v1,v2,v3,v4⟩:=hv.dI.form
 have hvs:=hv.dI
 clear h hv hl hx
 obtain⟨d,rfl⟩:∃d,n=i+1+(d+1):=⟨n - (i+2),by omega⟩
 have HN:=af hN;clear hN
 have HL:=af hL;clear hL
 have k1:(0:Int)<=(i:Int):=by omega
 have k2:(i:Int)<=(cap:Int):=by omega
 have k3:(0:Int)<=(i:Int)+1:=by omega
 have k4:(i:Int)+1<=(cap:Int):=by omega
 have k5:((i:Int)+1).toNat=i+1:=by omega
 have Hl:=af hll;clear hll
 have Hx:=af hx';clear hx'
 have Hn:=af hnl;clear hnl
 go_enter Q8,MU
 have k6:¬cap=i+1:=by omega
 have k7:(i:Int)+1<=(i:Int)+1+((d:Int)+1):=by omega
 have k8:IntKind.i64.wrap ((i:Int)+(m:Int))=(i:Int)+(m:Int):=aM _ (by omega)
 have k9:i+1+(d+1) - (i+1)=d+1:=by omega
 have k10:IntKind.i64.wrap ((i:Int)+(m:Int)+((d:Int)+1))=(i:Int)+(m:Int)+((d:Int)+1):=aM _ (by omega)
 have k11:¬((cap:Int)<(i:Int)+(m:Int)+((d:Int)+1)):=by omega
 have k12:((i:Int)+(m:Int)+((d:Int)+1)).toNat=i+m+(d+1):=by omega
 have k13:(0:Int)<=(i:Int)+(m:Int)+((d:Int)+1):=by omega
 have k14:(i:Int)+(m:Int)+((d:Int)+1)<=cap:=by omega
 have k15:(i:Int)+(m:Int)<=(i:Int)+1:=by omega
 have k16:(i:Int)<=(i:Int)+(m:Int)+((d:Int)+1):=by omega
 have k17:¬cap=i:=by omega
 go_wp2_with fail
 refine aS (fun _=>True) (fun _=>true) [0,1,2,3,4,5,6,7,8,9,10,11,12] rfl (by kernel_rfl) trivial ?_
 repeat ((refine bL (v:= ?_) rfl rfl (fun _ _ _ h=>h) rfl (fun W hW=> ?_) ?_);rotate_left;(focus ((try dsimp only at hW);skip;first|(go_simp;first|done|with_reducible rfl)));(try simp only[Act.put,ah,au,ak]))
 refine bR ?_
 have hD:(xs.drop (i+1)).length=d+1:=by rw[aR,<-Hx.out,aF,Hl.out];omega
 have hT:cur.take i=xs.take i:=by rw[<-Hx.out,dJ,bQ (by omega)]
 obtain⟨hF1,hF2⟩:=Aj cur news (xs.drop (i+1)) i (by rw[Hn.out,hD,Hl.out];omega)
 rw[Hn.out,hD,hT] at hF2
 rw[Hn.out] at hF1
 have hcs1:(Builtin.firstCells 1 m (.slice vo m vc)).run Tryz.prog w.drew= .ok news.toArray w.drew:=by
  have h1:=bJ.first (P:=Tryz.prog) (w:=w.drew) (hvs.keep fun _ _ _ h=>⟨rfl,h⟩) m (aG _)
  rwa [aQ (by rw[Hn.out];omega)] at h1
 have hcs2:∀W,Row W g 9 (splice cur i news)->(Builtin.firstCells 1 (d+1) (.slice (some ⟨g,i+1,none⟩) (d+1) (cap - (i+1)))).run Tryz.prog W= .ok (xs.drop (i+1)).toArray W:=by
  intro W hW
  have h1:=(Row.dI (S:=fH) (k:=1) (off:=i+1) hW (d+1) (cap - (i+1)) (by rw[eD _ _ _ (by rw[Hn.out,Hl.out];omega),Hl.out];omega) id (by omega) (by unfold maxLen;omega)).first (P:=Tryz.prog) (d+1) (aG _)
  rw[dJ,iy,qy _ _ _ _ (by rw[Hn.out];omega) (by rw[Hl.out];omega),bg] at h1
  rwa [show (cur.drop (i+1)).take (d+1)=xs.drop (i+1) by rw[<-Hx.out,iC];congr 1;omega] at h1
 have HD:=af hD;clear hD
 have HT:=af hT;clear hT
 have HF1:=af hF1;clear hF1
 have HF2:=af hF2;clear hF2
 have Hc1:=af hcs1;clear hcs1
 have Hc2:=af hcs2;clear hcs2
 have k18:¬cap=i+m:=by omega
 have k19:i+m+(d+1) - (i+m)=d+1:=by omega
 have k20:(0:Int)<=(i:Int)+(m:Int):=by omega
 have k21:(i:Int)+(m:Int)<=(i:Int)+(m:Int)+((d:Int)+1):=by omega
 have k22:((i:Int)+(m:Int)).toNat=i+m:=by omega
 have k23:(i:Int)+(m:Int)+((d:Int)+1)<=(i:Int)+1+((d:Int)+1):=by omega
 go_wp2_with (first
  |((refine dW rfl ?_);intro K hK;(refine gG (.tmp 95) (.tmp 96) 22 22 rfl 9 1 16 _ aY gD g i 9 m (i+m+(d+1) - i) (cap - i) (some ⟨g,i,none⟩) cur rfl hr (.slice vo m vc) rfl m news rfl ?_ ?_ Hc1.out (fun _=>rfl) ?_ hone ?_);(focus (exact(bQ (by omega)).symm));(focus (rw[Hn.out,bg]));(focus (rw[Hn.out,Hl.out];omega));intro w1 hr1 hk1;refine hK _ _ (Stop.of ?_)))
 refine Stop.on ?_
 go_wp2_with fail
 refine aS (fun _=>True) (fun i=> !([9].contains i)) [0,1,2,3,4,5,6,7,8,9] rfl (by kernel_rfl) trivial ?_
 repeat ((refine bL (v:= ?_) rfl rfl (fun _ _ _ h=>h) rfl (fun W hW=> ?_) ?_);rotate_left;(focus ((try dsimp only at hW);skip;first|(go_simp;first|done|with_reducible rfl)));(try simp only[Act.put,ah,au,ak]))
 refine jk rfl rfl rfl (by kernel_rfl) ?_
 intro K hK
 refine gG (.tmp 103) (.tmp 106) 22 22 rfl 9 1 16 _ aY gD g (i+m) 9 (d+1) (d+1) (cap - (i+m)) (some ⟨g,i+m,none⟩) _ rfl (w:=w1.drew) hr1 (.slice (some ⟨g,i+1,none⟩) (d+1) (cap - (i+1))) rfl (d+1) (xs.drop (i+1)) rfl (iy _).symm (by rw[HD.out,bg]) (Hc2.out _ hr1) (fun _=>rfl) ?_ (fun u hu=>hx1 u (cO hu)) ?_
 ·rw[eD _ _ _ (by rw[Hn.out,Hl.out];omega),HD.out,Hl.out];omega
 intro w2 hr2 hk2
 refine hK.out _ _ (bR ?_)
 go_wp2_with (first
  |((refine dW rfl ?_);intro K hK;(refine kS (.tmp 110) 22 rfl 9 1 16 _ aY gD rfl g (i+m+(d+1)) 9 _ _ _ _ rfl hr2 ?_ ?_ ?_ ?_);(focus (intro h0;first|rfl|(exfalso;omega)|(rw[if_neg (by omega)])));(focus (rw[HF1.out,Hl.out];omega));(focus (exact jF _ _ (by simp[Value.cells,Value.oneCell']) (by simp[Value.cells])));intro w3 zs hz hr3 hk3;refine hK _ _ ?_))
 all_goals
  go_ret
  have hown:=Row.own (k:=1) hr3 (i+m+(d+1)) (by rw[eD _ _ _ (by rw[HF1.out,Hl.out,hz];omega),HF1.out,Hl.out,bg]) hBg hSg (by omega) hc2
  rw[bg,l9 _ _ _ _ (aG _) (by rw[HF1.out,Hl.out];omega),HF2.out] at hown
  refine⟨_,rfl,?_,((((Keep.refl (· =g) w).drew.trans hk1 (fun _ _ h=>h)).drew).trans hk2 (fun _ _ h=>h)).trans hk3 (fun _ _ h=>h)⟩
  rw[HL.out,show N=i+m+(d+1) by rw[HN.out];omega]
  first|exact hown|(rw[‹cap=i+m+(d+1)›] at hown;exact hown)
theorem CG (g cap n i:Nat)(xs:List Value)(vv:Value)(m:Nat)(news:List Value)(w:World)(S:Nat->Prop)(B:Nat)(hS:∀g,S g->g<w.heap.size)(hB:B<=w.heap.size)(h:aT w S B 3 1 (.slice (some ⟨g,0,none⟩) n cap) n xs)(hv:aT w S B 3 1 vv m news)(hone:∀u∈news,u.oneCell'=true)(hn:n<=1000000)(hm:m<=1000000)(hi:n=i+1)(hm0:0<m):
  Calls Tryz.prog 188 #[.slice (some ⟨g,0,none⟩) n cap,.int .i64 i,.int .i64 ((i:Int)+1),vv] w fun e w'=>∃v',e= .returned v'/\aT w' S B 3 1 v' (i+m) (xs.take i++news)/\Keep (· =g) w w'/\Below B w w':=by
 obtain⟨cur,hr,hl,hx,hBg,hSg,hc,hc2⟩:=h.row
 have hc3:cap<=9223372036854775807:=by simpa [maxLen] using hc2
 have hh:aT w S B 3 1 (.slice (some ⟨g,0,none⟩) i cap) i (xs.take i):=by
  have:=Row.own hr i hl hBg hSg (by omega) hc2
  rwa [show cur.take (i*1)=xs.take i by rw[<-hx,dJ,bg,bg,bQ (by omega)]] at this
 have hsrc:Src Tryz.prog 1 151 vv m news w:=hv.dI.src bG hone
 obtain⟨vo,vc,rfl,v1,v2,v3,v4⟩:=hv.dI.form
 clear h hv hx hl hr
 subst hi
 have k1:(0:Int)<=(i:Int):=by omega
 have k2:(i:Int)<=(cap:Int):=by omega
 have k3:(0:Int)<=(i:Int)+1:=by omega
 have k4:(i:Int)+1<=(cap:Int):=by omega
 have k5:((i:Int)+1).toNat=i+1:=by omega
 have k6:¬(((i+m:Nat):Int)<((i+1:Nat):Int)):=by omega
 have k7:¬((i:Int)+(m:Int)<(i:Int)+1):=by omega
 have Hone:=af hone;clear hone
 go_enter Q7,MS
 go_wp2_with (at_builtin;(refine dQ rfl (.tmp 32) (.tmp 33) 151 151 rfl S B 3 1 8 _ bG iF rfl (.slice (some ⟨g,0,none⟩) i cap) _ _ rfl hh (.slice vo m vc) _ _ rfl hsrc hS hB ?_ ?_ ?_);(focus (unfold maxLen;omega));(focus omega);intro ao1 c1 w1 hown1 hk1 hb1 hd1)
 all_goals
  go_ret
  exact⟨_,rfl,hown1,hk1.mono (fun _ _ h=>by cases h;rfl),hb1⟩
theorem CJ (g cap n i:Nat)(xs:List Value)(vv:Value)(w:World)(S:Nat->Prop)(B:Nat)(h:aT w S B 3 1 (.slice (some ⟨g,0,none⟩) n cap) n xs)(hv:aT w S B 3 1 vv 0 [])(hn:n<=1000000)(hi:n=i+1):
  Calls Tryz.prog 188 #[.slice (some ⟨g,0,none⟩) n cap,.int .i64 i,.int .i64 ((i:Int)+1),vv] w fun e w'=>∃v',e= .returned v'/\aT w' S B 3 1 v' i (xs.take i)/\Keep (· =g) w w':=by
 obtain⟨cur,hr,hl,hx,hBg,hSg,hc,hc2⟩:=h.row
 have hc3:cap<=9223372036854775807:=by simpa [maxLen] using hc2
 have hsrc:Src Tryz.prog 1 151 vv 0 [] w:=hv.dI.src bG (by simp)
 obtain⟨vo,vc,rfl,v1,v2,v3,v4⟩:=hv.dI.form
 clear h hv
 subst hi
 have hx':cur.take i=xs.take i:=by rw[<-hx,dJ,bg,bQ (by omega)]
 have hll:cur.length=cap:=by omega
 have e1:splice cur i ([]:List Value)=cur:=by simp[splice]
 have hr0:Row w g 3 (splice cur (i*1) [])->Row w g 3 cur:=by rw[bg,e1];exact id
 have k1:(0:Int)<=(i:Int):=by omega
 have k2:(i:Int)<=(cap:Int):=by omega
 have k3:(0:Int)<=(i:Int)+1:=by omega
 have k4:(i:Int)+1<=(cap:Int):=by omega
 have k5:((i:Int)+1).toNat=i+1:=by omega
 have k6:i+1 - i=1:=by omega
 have k7:¬cap=i:=by omega
 have Hl:=af hll;clear hll hl hx
 have E1:=af e1;clear e1 hr0
 go_enter Q7,MS
 go_wp2_with (first
  |(refine dW rfl ?_;intro K hK;(refine xA (.tmp 32) (.tmp 33) 151 151 rfl 3 1 8 _ bG iF g i cap _ cur rfl hr (.slice vo 0 vc) 0 [] rfl hsrc ?_ ?_ ?_);(focus omega);(focus (have:=Hl.out;simp only[aJ];omega));intro w1 hr1 hk1;refine hK _ _ ?_)
  |(refine dW rfl ?_;intro K hK;(refine kS (.tmp 43) 151 rfl 3 1 8 _ bG iF rfl g i 3 1 _ (some ⟨g,i,none⟩) _ rfl hr1 (fun _=>rfl) ?_ ?_ ?_);(focus (simp only[bg,E1.out,Hl.out];omega));(focus (exact jF _ _ (by simp[Value.cells,Value.oneCell']) (by simp[Value.cells])));intro w2 zs hz hr2 hk2;refine hK _ _ ?_))
 all_goals
  go_ret
  rw[bg,E1.out] at hr2
  have hlz:(splice cur i zs).length=cap:=by rw[eD _ _ _ (by have:=Hl.out;omega)];exact Hl.out
  have:=Row.own (k:=1) hr2 i (by omega) hBg hSg (by omega) hc2
  rw[bg,l9 _ _ _ _ (aG _) (by have:=Hl.out;omega),hx'] at this
  exact⟨_,rfl,this,hk1.trans hk2 (fun _ _ h=>h)⟩
theorem A9 (g cap n i:Nat)(xs:List Value)(vv:Value)(m:Nat)(news:List Value)(w:World)(S:Nat->Prop)(B:Nat)(h:aT w S B 3 1 (.slice (some ⟨g,0,none⟩) n cap) n xs)(hx1:∀u∈xs,u.oneCell'=true)(hv:aT w S B 3 1 vv m news)(hvg:vv.ownBlock≠some g)(hone:∀u∈news,u.oneCell'=true)(hn:n<=1000000)(hi:i+1<n)(hm:m<=1)(N:Nat)(L:List Value)(hN:N=n - 1+m)(hL:L=xs.take i++news++xs.drop (i+1)):
  Calls Tryz.prog 188 #[.slice (some ⟨g,0,none⟩) n cap,.int .i64 i,.int .i64 ((i:Int)+1),vv] w fun e w'=>∃v',e= .returned v'/\aT w' S B 3 1 v' N L/\Keep (· =g) w w':=by
 obtain⟨cur,hr,hl,hx,hBg,hSg,hc,hc2⟩:=h.row
 have hc3:cap<=9223372036854775807:=by simpa [maxLen] using hc2
 have hnl:news.length=m:=by have:=hv.1.1;omega
 have hll:cur.length=cap:=by omega
 have hx':cur.take n=xs:=by rw[<-hx,bg]
 obtain⟨vo,vc,rfl,v1,v2,v3,v4⟩:=hv.dI.form
 have hvs:=hv.dI
 clear h hv hl hx
 obtain⟨d,rfl⟩:∃d,n=i+1+(d+1):=⟨n - (i+2),by omega⟩
 have HN:=af hN;clear hN
 have HL:=af hL;clear hL
 have k1:(0:Int)<=(i:Int):=by omega
 have k2:(i:Int)<=(cap:Int):=by omega
 have k3:(0:Int)<=(i:Int)+1:=by omega
 have k4:(i:Int)+1<=(cap:Int):=by omega
 have k5:((i:Int)+1).toNat=i+1:=by omega
 have Hl:=af hll;clear hll
 have Hx:=af hx';clear hx'
 have Hn:=af hnl;clear hnl
 go_enter Q7,MS
 have k6:¬cap=i+1:=by omega
 have k7:(i:Int)+1<=(i:Int)+1+((d:Int)+1):=by omega
 have k8:IntKind.i64.wrap ((i:Int)+(m:Int))=(i:Int)+(m:Int):=aM _ (by omega)
 have k9:i+1+(d+1) - (i+1)=d+1:=by omega
 have k10:IntKind.i64.wrap ((i:Int)+(m:Int)+((d:Int)+1))=(i:Int)+(m:Int)+((d:Int)+1):=aM _ (by omega)
 have k11:¬((cap:Int)<(i:Int)+(m:Int)+((d:Int)+1)):=by omega
 have k12:((i:Int)+(m:Int)+((d:Int)+1)).toNat=i+m+(d+1):=by omega
 have k13:(0:Int)<=(i:Int)+(m:Int)+((d:Int)+1):=by omega
 have k14:(i:Int)+(m:Int)+((d:Int)+1)<=cap:=by omega
 have k15:(i:Int)+(m:Int)<=(i:Int)+1:=by omega
 have k16:(i:Int)<=(i:Int)+(m:Int)+((d:Int)+1):=by omega
 have k17:¬cap=i:=by omega
 go_wp2_with fail
 refine aS (fun _=>True) (fun _=>true) [0,1,2,3,4,5,6,7,8,9,10,11,12] rfl (by kernel_rfl) trivial ?_
 repeat ((refine bL (v:= ?_) rfl rfl (fun _ _ _ h=>h) rfl (fun W hW=> ?_) ?_);rotate_left;(focus ((try dsimp only at hW);skip;first|(go_simp;first|done|with_reducible rfl)));(try simp only[Act.put,ah,au,ak]))
 refine bR ?_
 have hD:(xs.drop (i+1)).length=d+1:=by rw[aR,<-Hx.out,aF,Hl.out];omega
 have hT:cur.take i=xs.take i:=by rw[<-Hx.out,dJ,bQ (by omega)]
 obtain⟨hF1,hF2⟩:=Aj cur news (xs.drop (i+1)) i (by rw[Hn.out,hD,Hl.out];omega)
 rw[Hn.out,hD,hT] at hF2
 rw[Hn.out] at hF1
 have hcs1:(Builtin.firstCells 1 m (.slice vo m vc)).run Tryz.prog w.drew= .ok news.toArray w.drew:=by
  have h1:=bJ.first (P:=Tryz.prog) (w:=w.drew) (hvs.keep fun _ _ _ h=>⟨rfl,h⟩) m (aG _)
  rwa [aQ (by rw[Hn.out];omega)] at h1
 have hcs2:∀W,Row W g 3 (splice cur i news)->(Builtin.firstCells 1 (d+1) (.slice (some ⟨g,i+1,none⟩) (d+1) (cap - (i+1)))).run Tryz.prog W= .ok (xs.drop (i+1)).toArray W:=by
  intro W hW
  have h1:=(Row.dI (S:=fH) (k:=1) (off:=i+1) hW (d+1) (cap - (i+1)) (by rw[eD _ _ _ (by rw[Hn.out,Hl.out];omega),Hl.out];omega) id (by omega) (by unfold maxLen;omega)).first (P:=Tryz.prog) (d+1) (aG _)
  rw[dJ,iy,qy _ _ _ _ (by rw[Hn.out];omega) (by rw[Hl.out];omega),bg] at h1
  rwa [show (cur.drop (i+1)).take (d+1)=xs.drop (i+1) by rw[<-Hx.out,iC];congr 1;omega] at h1
 have HD:=af hD;clear hD
 have HT:=af hT;clear hT
 have HF1:=af hF1;clear hF1
 have HF2:=af hF2;clear hF2
 have Hc1:=af hcs1;clear hcs1
 have Hc2:=af hcs2;clear hcs2
 have k18:¬cap=i+m:=by omega
 have k19:i+m+(d+1) - (i+m)=d+1:=by omega
 have k20:(0:Int)<=(i:Int)+(m:Int):=by omega
 have k21:(i:Int)+(m:Int)<=(i:Int)+(m:Int)+((d:Int)+1):=by omega
 have k22:((i:Int)+(m:Int)).toNat=i+m:=by omega
 have k23:(i:Int)+(m:Int)+((d:Int)+1)<=(i:Int)+1+((d:Int)+1):=by omega
 go_wp2_with (first
  |((refine dW rfl ?_);intro K hK;(refine gG (.tmp 95) (.tmp 96) 151 151 rfl 3 1 8 _ bG iF g i 3 m (i+m+(d+1) - i) (cap - i) (some ⟨g,i,none⟩) cur rfl hr (.slice vo m vc) rfl m news rfl ?_ ?_ Hc1.out (fun _=>rfl) ?_ hone ?_);(focus (exact(bQ (by omega)).symm));(focus (rw[Hn.out,bg]));(focus (rw[Hn.out,Hl.out];omega));intro w1 hr1 hk1;refine hK _ _ (Stop.of ?_)))
 refine Stop.on ?_
 go_wp2_with fail
 refine aS (fun _=>True) (fun i=> !([9].contains i)) [0,1,2,3,4,5,6,7,8,9] rfl (by kernel_rfl) trivial ?_
 repeat ((refine bL (v:= ?_) rfl rfl (fun _ _ _ h=>h) rfl (fun W hW=> ?_) ?_);rotate_left;(focus ((try dsimp only at hW);skip;first|(go_simp;first|done|with_reducible rfl)));(try simp only[Act.put,ah,au,ak]))
 refine jk rfl rfl rfl (by kernel_rfl) ?_
 intro K hK
 refine gG (.tmp 103) (.tmp 106) 151 151 rfl 3 1 8 _ bG iF g (i+m) 3 (d+1) (d+1) (cap - (i+m)) (some ⟨g,i+m,none⟩) _ rfl (w:=w1.drew) hr1 (.slice (some ⟨g,i+1,none⟩) (d+1) (cap - (i+1))) rfl (d+1) (xs.drop (i+1)) rfl (iy _).symm (by rw[HD.out,bg]) (Hc2.out _ hr1) (fun _=>rfl) ?_ (fun u hu=>hx1 u (cO hu)) ?_
 ·rw[eD _ _ _ (by rw[Hn.out,Hl.out];omega),HD.out,Hl.out];omega
 intro w2 hr2 hk2
 refine hK.out _ _ (bR ?_)
 go_wp2_with (first
  |((refine dW rfl ?_);intro K hK;(refine kS (.tmp 110) 151 rfl 3 1 8 _ bG iF rfl g (i+m+(d+1)) 3 _ _ _ _ rfl hr2 ?_ ?_ ?_ ?_);(focus (intro h0;first|rfl|(exfalso;omega)|(rw[if_neg (by omega)])));(focus (rw[HF1.out,Hl.out];omega));(focus (exact jF _ _ (by simp[Value.cells,Value.oneCell']) (by simp[Value.cells])));intro w3 zs hz hr3 hk3;refine hK _ _ ?_))
 all_goals
  go_ret
  have hown:=Row.own (k:=1) hr3 (i+m+(d+1)) (by rw[eD _ _ _ (by rw[HF1.out,Hl.out,hz];omega),HF1.out,Hl.out,bg]) hBg hSg (by omega) hc2
  rw[bg,l9 _ _ _ _ (aG _) (by rw[HF1.out,Hl.out];omega),HF2.out] at hown
  refine⟨_,rfl,?_,((((Keep.refl (· =g) w).drew.trans hk1 (fun _ _ h=>h)).drew).trans hk2 (fun _ _ h=>h)).trans hk3 (fun _ _ h=>h)⟩
  rw[HL.out,show N=i+m+(d+1) by rw[HN.out];omega]
  first|exact hown|(rw[‹cap=i+m+(d+1)›] at hown;exact hown)
theorem AY (g cap n i:Nat)(xs:List Value)(vb vc m:Nat)(news:List Value)(w:World)(S:Nat->Prop)(B:Nat)(h:aT w S B 9 1 (.slice (some ⟨g,0,none⟩) n cap) n xs)(hx1:∀u∈xs,u.oneCell'=true)(hv:aT w S B 9 1 (.slice (some ⟨vb,0,none⟩) m vc) m news)(hvg:vb≠g)(hone:∀u∈news,u.oneCell'=true)(hn:n<=1000000)(hmm:m<=1000000)(hi:i+1<n)(hm:2<=m)(hroom:n - 1+m<=cap)(N:Nat)(L:List Value)(hN:N=n - 1+m)(hL:L=xs.take i++news++xs.drop (i+1)):
  Calls Tryz.prog 187 #[.slice (some ⟨g,0,none⟩) n cap,.int .i64 i,.int .i64 ((i:Int)+1),.slice (some ⟨vb,0,none⟩) m vc] w fun e w'=>∃v',e= .returned v'/\aT w' S B 9 1 v' N L/\Keep (· =g) w w':=by
 obtain⟨cur,hr,hl,hx,hBg,hSg,hc,hc2⟩:=h.row
 obtain⟨curv,hrv,hlv,_,_,_,hcv,hcv2⟩:=hv.row
 have hc3:cap<=9223372036854775807:=by simpa [maxLen] using hc2
 have hcv3:vc<=9223372036854775807:=by simpa [maxLen] using hcv2
 have hnl:news.length=m:=by have:=hv.1.1;omega
 have hll:cur.length=cap:=by omega
 have hllv:curv.length=vc:=by omega
 have hx':cur.take n=xs:=by rw[<-hx,bg]
 have hvs:=hv.dI
 clear h hv hl hx hlv
 obtain⟨d,rfl⟩:∃d,n=i+1+(d+1):=⟨n - (i+2),by omega⟩
 have hov:(callFunc 221 #[.slice (some ⟨g,i+m,none⟩) (d+1) (cap - (i+m)),.slice (some ⟨vb,0,none⟩) m vc]).run Tryz.prog w.drew= .ok (.value (.bool false)) w.drew:=by
  rw[qZ Tryz.func221 (by kernel_rfl) (by kernel_rfl) (by kernel_rfl) (e:=Extern.SlicesOverlaps.overlaps #[22,22] #[4]) (by kernel_rfl)]
  rw[Lib.run_overlaps_apart w.drew 22 4 9 aY 1 (fun w=>by kernel_rfl) ⟨g,i+m,none⟩ ⟨vb,0,none⟩ (d+1) (cap - (i+m)) m vc (Ne.symm hvg) 9 9 cap vc
   (by have hr':w.drew.heap[g]? =_:=hr;simp[World.shape?,hr',hll]) (by have hr':w.drew.heap[vb]? =_:=hrv;simp[World.shape?,hr',hllv]) (by omega) (hr.frozen _) (hr.frozen _)]
  rfl
 have HN:=af hN;clear hN
 have HL:=af hL;clear hL
 have k1:(0:Int)<=(i:Int):=by omega
 have k2:(i:Int)<=(cap:Int):=by omega
 have k3:(0:Int)<=(i:Int)+1:=by omega
 have k4:(i:Int)+1<=(cap:Int):=by omega
 have k5:((i:Int)+1).toNat=i+1:=by omega
 have Hl:=af hll;clear hll
 have Hx:=af hx';clear hx'
 have Hn:=af hnl;clear hnl
 have k6:¬cap=i+1:=by omega
 have k7:(i:Int)+1<=(i:Int)+1+((d:Int)+1):=by omega
 have k8:IntKind.i64.wrap ((i:Int)+(m:Int))=(i:Int)+(m:Int):=aM _ (by omega)
 have k9:i+1+(d+1) - (i+1)=d+1:=by omega
 have k10:IntKind.i64.wrap ((i:Int)+(m:Int)+((d:Int)+1))=(i:Int)+(m:Int)+((d:Int)+1):=aM _ (by omega)
 have k11:¬((cap:Int)<(i:Int)+(m:Int)+((d:Int)+1)):=by omega
 have k12:((i:Int)+(m:Int)+((d:Int)+1)).toNat=i+m+(d+1):=by omega
 have k13:(0:Int)<=(i:Int)+(m:Int)+((d:Int)+1):=by omega
 have k14:(i:Int)+(m:Int)+((d:Int)+1)<=cap:=by omega
 have k15:¬((i:Int)+(m:Int)<=(i:Int)+1):=by omega
 have k16:(i:Int)<=(i:Int)+(m:Int)+((d:Int)+1):=by omega
 have k17:¬cap=i:=by omega
 have hD:(xs.drop (i+1)).length=d+1:=by rw[aR,<-Hx.out,aF,Hl.out];omega
 have hT:cur.take i=xs.take i:=by rw[<-Hx.out,dJ,bQ (by omega)]
 obtain⟨hF1,hF2⟩:=Kl cur news (xs.drop (i+1)) i (by rw[Hn.out,hD,Hl.out];omega)
 rw[Hn.out,hD,hT] at hF2
 rw[Hn.out] at hF1
 have hcs1:∀W,Keep (· =g) w W->(Builtin.firstCells 1 m (.slice (some ⟨vb,0,none⟩) m vc)).run Tryz.prog W= .ok news.toArray W:=by
  intro W hW
  have h1:=bJ.first (P:=Tryz.prog) (w:=W) (hvs.keep fun g' hg hl hs=>⟨hW.block g' hl (fun e=>hvg (by cases hg;exact e)),hs⟩) m (aG _)
  rwa [aQ (by rw[Hn.out];omega)] at h1
 have hcs2:(Builtin.firstCells 1 (d+1) (.slice (some ⟨g,i+1,none⟩) (d+1) (cap - (i+1)))).run Tryz.prog w.drew.drew= .ok (xs.drop (i+1)).toArray w.drew.drew:=by
  have h1:=(Row.dI (w:=w.drew.drew) (S:=fH) (k:=1) (off:=i+1) hr (d+1) (cap - (i+1)) (by rw[Hl.out];omega) id (by omega) (by unfold maxLen;omega)).first (P:=Tryz.prog) (d+1) (aG _)
  rw[dJ,iy,bg] at h1
  rwa [show (cur.drop (i+1)).take (d+1)=xs.drop (i+1) by rw[<-Hx.out,iC];congr 1;omega] at h1
 have HD:=af hD;clear hD
 have HT:=af hT;clear hT
 have HF1:=af hF1;clear hF1
 have HF2:=af hF2;clear hF2
 have Hc1:=af hcs1;clear hcs1
 have Hc2:=af hcs2;clear hcs2
 have k18:¬cap=i+m:=by omega
 have k19:i+m+(d+1) - (i+m)=d+1:=by omega
 have k20:(0:Int)<=(i:Int)+(m:Int):=by omega
 have k21:(i:Int)+(m:Int)<=(i:Int)+(m:Int)+((d:Int)+1):=by omega
 have k22:((i:Int)+(m:Int)).toNat=i+m:=by omega
 go_enter Q8,MU
 go_wp2_with fail
 refine aS (fun _=>True) (fun _=>true) [0,1,2,3,4,5,6,7,8,9,10,11,12] rfl (by kernel_rfl) trivial ?_
 repeat ((refine bL (v:= ?_) rfl rfl (fun _ _ _ h=>h) rfl (fun W hW=> ?_) ?_);rotate_left;(focus ((try dsimp only at hW);skip;first|(go_simp;first|done|with_reducible rfl)));(try simp only[Act.put,ah,au,ak]))
 refine bR ?_
 go_wp2_with fail
 refine aS (fun _=>True) (fun i=> !([9].contains i)) [0,1,2,3,4,5,6,7,8,9] rfl (by kernel_rfl) trivial ?_
 repeat ((refine bL (v:= ?_) rfl rfl (fun _ _ _ h=>h) rfl (fun W hW=> ?_) ?_);rotate_left;(focus ((try dsimp only at hW);skip;first|(go_simp;first|done|with_reducible rfl)));(try simp only[Act.put,ah,au,ak]))
 refine jk rfl rfl rfl (by kernel_rfl) ?_
 intro K hK
 refine gG (.tmp 126) (.tmp 129) 22 22 rfl 9 1 16 _ aY gD g (i+m) 9 (d+1) (d+1) (cap - (i+m)) (some ⟨g,i+m,none⟩) _ rfl (w:=w.drew.drew) hr (.slice (some ⟨g,i+1,none⟩) (d+1) (cap - (i+1))) rfl (d+1) (xs.drop (i+1)) rfl (iy _).symm (by rw[HD.out,bg]) Hc2.out (fun _=>rfl) ?_ (fun u hu=>hx1 u (cO hu)) ?_
 ·rw[HD.out,Hl.out];omega
 intro w2 hr2 hk2
 refine hK.out _ _ (bR ?_)
 have hkk:Keep (· =g) w w2:=(Keep.refl (· =g) w).drew.drew.trans hk2 (fun _ _ h=>h)
 go_wp2_with (first
  |((refine dW rfl ?_);intro K hK;(refine gG (.tmp 133) (.tmp 134) 22 22 rfl 9 1 16 _ aY gD g i 9 m (i+m+(d+1) - i) (cap - i) (some ⟨g,i,none⟩) _ rfl hr2 (.slice (some ⟨vb,0,none⟩) m vc) rfl m news rfl ?_ ?_ (Hc1.out _ hkk) (fun _=>rfl) ?_ hone ?_);(focus (exact(bQ (by omega)).symm));(focus (rw[Hn.out,bg]));(focus (rw[eD _ _ _ (by rw[HD.out,Hl.out];omega),Hn.out,Hl.out];omega));intro w3 hr3 hk3;refine hK _ _ ?_))
 go_ret
 have hown:=Row.own (k:=1) hr3 (i+m+(d+1)) (by rw[HF1.out,Hl.out,bg]) hBg hSg (by omega) hc2
 rw[bg,HF2.out] at hown
 refine⟨_,rfl,?_,hkk.trans hk3 (fun _ _ h=>h)⟩
 rw[HL.out,show N=i+m+(d+1) by rw[HN.out];omega]
 exact hown
theorem A8 (g cap n i:Nat)(xs:List Value)(vb vc m:Nat)(news:List Value)(w:World)(S:Nat->Prop)(B:Nat)(h:aT w S B 3 1 (.slice (some ⟨g,0,none⟩) n cap) n xs)(hx1:∀u∈xs,u.oneCell'=true)(hv:aT w S B 3 1 (.slice (some ⟨vb,0,none⟩) m vc) m news)(hvg:vb≠g)(hone:∀u∈news,u.oneCell'=true)(hn:n<=1000000)(hmm:m<=1000000)(hi:i+1<n)(hm:2<=m)(hroom:n - 1+m<=cap)(N:Nat)(L:List Value)(hN:N=n - 1+m)(hL:L=xs.take i++news++xs.drop (i+1)):
  Calls Tryz.prog 188 #[.slice (some ⟨g,0,none⟩) n cap,.int .i64 i,.int .i64 ((i:Int)+1),.slice (some ⟨vb,0,none⟩) m vc] w fun e w'=>∃v',e= .returned v'/\aT w' S B 3 1 v' N L/\Keep (· =g) w w':=by
 obtain⟨cur,hr,hl,hx,hBg,hSg,hc,hc2⟩:=h.row
 obtain⟨curv,hrv,hlv,_,_,_,hcv,hcv2⟩:=hv.row
 have hc3:cap<=9223372036854775807:=by simpa [maxLen] using hc2
 have hcv3:vc<=9223372036854775807:=by simpa [maxLen] using hcv2
 have hnl:news.length=m:=by have:=hv.1.1;omega
 have hll:cur.length=cap:=by omega
 have hllv:curv.length=vc:=by omega
 have hx':cur.take n=xs:=by rw[<-hx,bg]
 have hvs:=hv.dI
 clear h hv hl hx hlv
 obtain⟨d,rfl⟩:∃d,n=i+1+(d+1):=⟨n - (i+2),by omega⟩
 have hov:(callFunc 225 #[.slice (some ⟨g,i+m,none⟩) (d+1) (cap - (i+m)),.slice (some ⟨vb,0,none⟩) m vc]).run Tryz.prog w.drew= .ok (.value (.bool false)) w.drew:=by
  rw[qZ Tryz.func225 (by kernel_rfl) (by kernel_rfl) (by kernel_rfl) (e:=Extern.SlicesOverlaps.overlaps #[151,151] #[4]) (by kernel_rfl)]
  rw[Lib.run_overlaps_apart w.drew 151 4 3 bG 1 (fun w=>by kernel_rfl) ⟨g,i+m,none⟩ ⟨vb,0,none⟩ (d+1) (cap - (i+m)) m vc (Ne.symm hvg) 3 3 cap vc
   (by have hr':w.drew.heap[g]? =_:=hr;simp[World.shape?,hr',hll]) (by have hr':w.drew.heap[vb]? =_:=hrv;simp[World.shape?,hr',hllv]) (by omega) (hr.frozen _) (hr.frozen _)]
  rfl
 have HN:=af hN;clear hN
 have HL:=af hL;clear hL
 have k1:(0:Int)<=(i:Int):=by omega
 have k2:(i:Int)<=(cap:Int):=by omega
 have k3:(0:Int)<=(i:Int)+1:=by omega
 have k4:(i:Int)+1<=(cap:Int):=by omega
 have k5:((i:Int)+1).toNat=i+1:=by omega
 have Hl:=af hll;clear hll
 have Hx:=af hx';clear hx'
 have Hn:=af hnl;clear hnl
 have k6:¬cap=i+1:=by omega
 have k7:(i:Int)+1<=(i:Int)+1+((d:Int)+1):=by omega
 have k8:IntKind.i64.wrap ((i:Int)+(m:Int))=(i:Int)+(m:Int):=aM _ (by omega)
 have k9:i+1+(d+1) - (i+1)=d+1:=by omega
 have k10:IntKind.i64.wrap ((i:Int)+(m:Int)+((d:Int)+1))=(i:Int)+(m:Int)+((d:Int)+1):=aM _ (by omega)
 have k11:¬((cap:Int)<(i:Int)+(m:Int)+((d:Int)+1)):=by omega
 have k12:((i:Int)+(m:Int)+((d:Int)+1)).toNat=i+m+(d+1):=by omega
 have k13:(0:Int)<=(i:Int)+(m:Int)+((d:Int)+1):=by omega
 have k14:(i:Int)+(m:Int)+((d:Int)+1)<=cap:=by omega
 have k15:¬((i:Int)+(m:Int)<=(i:Int)+1):=by omega
 have k16:(i:Int)<=(i:Int)+(m:Int)+((d:Int)+1):=by omega
 have k17:¬cap=i:=by omega
 have hD:(xs.drop (i+1)).length=d+1:=by rw[aR,<-Hx.out,aF,Hl.out];omega
 have hT:cur.take i=xs.take i:=by rw[<-Hx.out,dJ,bQ (by omega)]
 obtain⟨hF1,hF2⟩:=Kl cur news (xs.drop (i+1)) i (by rw[Hn.out,hD,Hl.out];omega)
 rw[Hn.out,hD,hT] at hF2
 rw[Hn.out] at hF1
 have hcs1:∀W,Keep (· =g) w W->(Builtin.firstCells 1 m (.slice (some ⟨vb,0,none⟩) m vc)).run Tryz.prog W= .ok news.toArray W:=by
  intro W hW
  have h1:=bJ.first (P:=Tryz.prog) (w:=W) (hvs.keep fun g' hg hl hs=>⟨hW.block g' hl (fun e=>hvg (by cases hg;exact e)),hs⟩) m (aG _)
  rwa [aQ (by rw[Hn.out];omega)] at h1
 have hcs2:(Builtin.firstCells 1 (d+1) (.slice (some ⟨g,i+1,none⟩) (d+1) (cap - (i+1)))).run Tryz.prog w.drew.drew= .ok (xs.drop (i+1)).toArray w.drew.drew:=by
  have h1:=(Row.dI (w:=w.drew.drew) (S:=fH) (k:=1) (off:=i+1) hr (d+1) (cap - (i+1)) (by rw[Hl.out];omega) id (by omega) (by unfold maxLen;omega)).first (P:=Tryz.prog) (d+1) (aG _)
  rw[dJ,iy,bg] at h1
  rwa [show (cur.drop (i+1)).take (d+1)=xs.drop (i+1) by rw[<-Hx.out,iC];congr 1;omega] at h1
 have HD:=af hD;clear hD
 have HT:=af hT;clear hT
 have HF1:=af hF1;clear hF1
 have HF2:=af hF2;clear hF2
 have Hc1:=af hcs1;clear hcs1
 have Hc2:=af hcs2;clear hcs2
 have k18:¬cap=i+m:=by omega
 have k19:i+m+(d+1) - (i+m)=d+1:=by omega
 have k20:(0:Int)<=(i:Int)+(m:Int):=by omega
 have k21:(i:Int)+(m:Int)<=(i:Int)+(m:Int)+((d:Int)+1):=by omega
 have k22:((i:Int)+(m:Int)).toNat=i+m:=by omega
 go_enter Q7,MS
 go_wp2_with fail
 refine aS (fun _=>True) (fun _=>true) [0,1,2,3,4,5,6,7,8,9,10,11,12] rfl (by kernel_rfl) trivial ?_
 repeat ((refine bL (v:= ?_) rfl rfl (fun _ _ _ h=>h) rfl (fun W hW=> ?_) ?_);rotate_left;(focus ((try dsimp only at hW);skip;first|(go_simp;first|done|with_reducible rfl)));(try simp only[Act.put,ah,au,ak]))
 refine bR ?_
 go_wp2_with fail
 refine aS (fun _=>True) (fun i=> !([9].contains i)) [0,1,2,3,4,5,6,7,8,9] rfl (by kernel_rfl) trivial ?_
 repeat ((refine bL (v:= ?_) rfl rfl (fun _ _ _ h=>h) rfl (fun W hW=> ?_) ?_);rotate_left;(focus ((try dsimp only at hW);skip;first|(go_simp;first|done|with_reducible rfl)));(try simp only[Act.put,ah,au,ak]))
 refine jk rfl rfl rfl (by kernel_rfl) ?_
 intro K hK
 refine gG (.tmp 126) (.tmp 129) 151 151 rfl 3 1 8 _ bG iF g (i+m) 3 (d+1) (d+1) (cap - (i+m)) (some ⟨g,i+m,none⟩) _ rfl (w:=w.drew.drew) hr (.slice (some ⟨g,i+1,none⟩) (d+1) (cap - (i+1))) rfl (d+1) (xs.drop (i+1)) rfl (iy _).symm (by rw[HD.out,bg]) Hc2.out (fun _=>rfl) ?_ (fun u hu=>hx1 u (cO hu)) ?_
 ·rw[HD.out,Hl.out];omega
 intro w2 hr2 hk2
 refine hK.out _ _ (bR ?_)
 have hkk:Keep (· =g) w w2:=(Keep.refl (· =g) w).drew.drew.trans hk2 (fun _ _ h=>h)
 go_wp2_with (first
  |((refine dW rfl ?_);intro K hK;(refine gG (.tmp 133) (.tmp 134) 151 151 rfl 3 1 8 _ bG iF g i 3 m (i+m+(d+1) - i) (cap - i) (some ⟨g,i,none⟩) _ rfl hr2 (.slice (some ⟨vb,0,none⟩) m vc) rfl m news rfl ?_ ?_ (Hc1.out _ hkk) (fun _=>rfl) ?_ hone ?_);(focus (exact(bQ (by omega)).symm));(focus (rw[Hn.out,bg]));(focus (rw[eD _ _ _ (by rw[HD.out,Hl.out];omega),Hn.out,Hl.out];omega));intro w3 hr3 hk3;refine hK _ _ ?_))
 go_ret
 have hown:=Row.own (k:=1) hr3 (i+m+(d+1)) (by rw[HF1.out,Hl.out,bg]) hBg hSg (by omega) hc2
 rw[bg,HF2.out] at hown
 refine⟨_,rfl,?_,hkk.trans hk3 (fun _ _ h=>h)⟩
 rw[HL.out,show N=i+m+(d+1) by rw[HN.out];omega]
 exact hown
theorem A7 (g cap n i:Nat)(xs:List Value)(vb vc m:Nat)(news:List Value)(w:World)(S:Nat->Prop)(B:Nat)(hS:∀g,S g->g<w.heap.size)(hB:B<=w.heap.size)(h:aT w S B 9 1 (.slice (some ⟨g,0,none⟩) n cap) n xs)(hx1:∀u∈xs,u.oneCell'=true)(hv:aT w S B 9 1 (.slice (some ⟨vb,0,none⟩) m vc) m news)(hone:∀u∈news,u.oneCell'=true)(hn:n<=1000000)(hmm:m<=1000000)(hi:i+1<n)(hroom:cap<n - 1+m)(N:Nat)(L:List Value)(hN:N=n - 1+m)(hL:L=xs.take i++news++xs.drop (i+1)):
  Calls Tryz.prog 187 #[.slice (some ⟨g,0,none⟩) n cap,.int .i64 i,.int .i64 ((i:Int)+1),.slice (some ⟨vb,0,none⟩) m vc] w fun e w'=>∃v',e= .returned v'/\aT w' S B 9 1 v' N L/\Keep fH w w':=by
 obtain⟨cur,hr,hl,hx,hBg,hSg,hc,hc2⟩:=h.row
 have hc3:cap<=9223372036854775807:=by simpa [maxLen] using hc2
 have hnl:news.length=m:=by have:=hv.1.1;omega
 have hll:cur.length=cap:=by omega
 have hx':cur.take n=xs:=by rw[<-hx,bg]
 have hvs:=hv.dI
 obtain⟨vo,vc',e0,v1,v2,_,_⟩:=hv.dI.form
 cases e0
 clear h hv hl hx
 obtain⟨d,rfl⟩:∃d,n=i+1+(d+1):=⟨n - (i+2),by omega⟩
 have HN:=af hN;clear hN
 have HL:=af hL;clear hL
 have k1:(0:Int)<=(i:Int):=by omega
 have k2:(i:Int)<=(cap:Int):=by omega
 have k3:(0:Int)<=(i:Int)+1:=by omega
 have k4:(i:Int)+1<=(cap:Int):=by omega
 have k5:((i:Int)+1).toNat=i+1:=by omega
 have Hl:=af hll;clear hll
 have Hx:=af hx';clear hx'
 have Hn:=af hnl;clear hnl
 have k6:¬cap=i+1:=by omega
 have k7:(i:Int)+1<=(i:Int)+1+((d:Int)+1):=by omega
 have k8:IntKind.i64.wrap ((i:Int)+(m:Int))=(i:Int)+(m:Int):=aM _ (by omega)
 have k9:i+1+(d+1) - (i+1)=d+1:=by omega
 have k10:IntKind.i64.wrap ((i:Int)+(m:Int)+((d:Int)+1))=(i:Int)+(m:Int)+((d:Int)+1):=aM _ (by omega)
 have k11:(cap:Int)<(i:Int)+(m:Int)+((d:Int)+1):=by omega
 have k17:¬cap=i:=by omega
 have k18:(i:Int)+(m:Int)+((d:Int)+1) - (i:Int)=((m+(d+1):Nat):Int):=by omega
 have k19:i+(m+(d+1))=i+m+(d+1):=by omega
 have k20:(0:Int)<=(i:Int)+(m:Int):=by omega
 have k22:((i:Int)+(m:Int)).toNat=i+m:=by omega
 have hD:(xs.drop (i+1)).length=d+1:=by rw[aR,<-Hx.out,aF,Hl.out];omega
 have hT:cur.take i=xs.take i:=by rw[<-Hx.out,dJ,bQ (by omega)]
 have hgl:g<w.heap.size:=hr.lt
 have HD:=af hD;clear hD
 have HT:=af hT;clear hT
 go_enter Q8,MU
 go_wp2_with fail
 refine aS (fun _=>True) (fun _=>true) [0,1,2,3,4,5,6,7,8,9,10,11,12] rfl (by kernel_rfl) trivial ?_
 repeat ((refine bL (v:= ?_) rfl rfl (fun _ _ _ h=>h) rfl (fun W hW=> ?_) ?_);rotate_left;(focus ((try dsimp only at hW);skip;first|(go_simp;first|done|with_reducible rfl)));(try simp only[Act.put,ah,au,ak]))
 refine bR ?_
 go_wp2_with (first|(at_builtin;(refine dW rfl ?_);intro K hK;go_must ((refine rX (w:=w.drew) (.tmp 63) (.tmp 66) 22 3 rfl 9 1 16 _ aY gQ gD rfl (by omega) g i cap (m+(d+1)) cur rfl ?_ hr ?_ ?_ ?_ ?_ ?_ ?_);(focus (first|rfl|(show Value.int _ _=_;congr 1;first|done|omega)));(focus (rw[Hl.out];omega));(focus omega);(focus omega);(focus (unfold maxLen;omega));(focus omega);intro c1 w1 rest hr1 hl1 hc1 hc1' hk1;refine hK _ _ (Stop.of ?_))))
 have hr1:Row w1 w.heap.size 9 (cur.take i++rest):=by rw[bg] at hr1;exact hr1
 have hl1:(cur.take i++rest).length=c1:=by rw[bg,bg] at hl1;exact hl1
 have hk1:Keep fH w w1:=(Keep.refl fH w).drew.trans hk1 (fun _ _ h=>h)
 have k12:¬c1=i:=by omega
 have k14:¬c1=i+m:=by omega
 have k15:(i:Int)<=(c1:Int):=by omega
 have k16:(i:Int)+(m:Int)<=(i:Int)+(m:Int)+((d:Int)+1):=by omega
 have hc1'':c1<=9223372036854775807:=by simpa [maxLen] using hc1'
 have hci:(cur.take i).length=i:=by rw[aF,Hl.out];omega
 obtain⟨hF1,hF2⟩:=Aj (cur.take i++rest) news (xs.drop (i+1)) i (by rw[Hn.out,HD.out,hl1];omega)
 rw[Hn.out,HD.out,List.take_left' hci] at hF2
 rw[Hn.out] at hF1
 have hcs1:(Builtin.firstCells 1 m (.slice (some ⟨vb,0,none⟩) m vc)).run Tryz.prog w1= .ok news.toArray w1:=by
  have h1:=bJ.first (P:=Tryz.prog) (w:=w1) (hvs.keep fun g' hg hl hs=>⟨hk1.block g' hl id,hs⟩) m (aG _)
  rwa [aQ (by rw[Hn.out];omega)] at h1
 have Hl1:=af hl1;clear hl1
 have HF1:=af hF1;clear hF1
 have HF2:=af hF2;clear hF2
 have Hc1:=af hcs1;clear hcs1
 have Hci:=af hci;clear hci
 refine Stop.on ?_
 go_wp2_with (first|((refine dW rfl ?_);intro K hK;(refine gG (.tmp 70) (.tmp 71) 22 22 rfl 9 1 16 _ aY gD w.heap.size i 9 m (i+m+(d+1) - i) (c1 - i) (some ⟨w.heap.size,i,none⟩) _ ?_ hr1 (.slice (some ⟨vb,0,none⟩) m vc) rfl m news rfl ?_ ?_ Hc1.out (fun _=>rfl) ?_ hone ?_);go_must ((focus (first|rfl|(show Value.slice _ _ _=_;congr 1;omega)));(focus (exact(bQ (by omega)).symm));(focus (rw[Hn.out,bg]));(focus (rw[Hl1.out,Hn.out];omega));intro w2 hr2 hk2;refine hK _ _ (Stop.of ?_))))
 have hkk:Keep fH w w2:=hk1.trans hk2 (fun _ hl e=>absurd hl (by omega))
 have hg2:Row w2 g 9 cur:=hr.keep hkk id
 have hcs:(Builtin.firstCells 1 (d+1) (.slice (some ⟨g,i+1,none⟩) (d+1) (cap - (i+1)))).run Tryz.prog w2.drew= .ok (xs.drop (i+1)).toArray w2.drew:=by
  have h1:=(Row.dI (w:=w2.drew) (S:=fH) (k:=1) (off:=i+1) hg2 (d+1) (cap - (i+1)) (by rw[Hl.out];omega) id (by omega) (by unfold maxLen;omega)).first (P:=Tryz.prog) (d+1) (aG _)
  rw[dJ,iy,bg] at h1
  rwa [show (cur.drop (i+1)).take (d+1)=xs.drop (i+1) by rw[<-Hx.out,iC];congr 1;omega] at h1
 have Hcs:=af hcs;clear hcs
 have k23:i+m+(d+1) - (i+m)=d+1:=by omega
 refine Stop.on ?_
 go_wp2_with fail
 refine aS (fun _=>True) (fun i=> !([9].contains i)) [0,1,2,3,4,5,6,7,8,9] rfl (by kernel_rfl) trivial ?_
 repeat ((refine bL (v:= ?_) rfl rfl (fun _ _ _ h=>h) rfl (fun W hW=> ?_) ?_);rotate_left;(focus ((try dsimp only at hW);skip;first|(go_simp;first|done|with_reducible rfl)));(try simp only[Act.put,ah,au,ak]))
 refine jk rfl rfl rfl (by kernel_rfl) ?_
 intro K hK
 refine gG (.tmp 78) (.tmp 81) 22 22 rfl 9 1 16 _ aY gD w.heap.size (i+m) 9 (d+1) (d+1) (c1 - (i+m)) (some ⟨w.heap.size,i+m,none⟩) _ rfl (w:=w2.drew) hr2 (.slice (some ⟨g,i+1,none⟩) (d+1) (cap - (i+1))) rfl (d+1) (xs.drop (i+1)) rfl (iy _).symm (by rw[HD.out,bg]) Hcs.out (fun _=>rfl) ?_ (fun u hu=>hx1 u (cO hu)) ?_
 ·rw[eD _ _ _ (by rw[Hn.out,Hl1.out];omega),HD.out,Hl1.out];omega
 intro w3 hr3 hk3
 refine hK.out _ _ (bR ?_)
 go_wp2
 go_ret
 have hown:=Row.own (S:=S) (B:=B) (k:=1) hr3 (i+m+(d+1)) (by rw[HF1.out,Hl1.out,bg]) hB (fun hs=>absurd (hS _ hs) (dM _)) (by omega) hc1'
 rw[bg,HF2.out] at hown
 refine⟨_,rfl,?_,hkk.drew.trans hk3 (fun _ hl e=>absurd hl (by omega))⟩
 rw[HL.out,show N=i+m+(d+1) by rw[HN.out];omega,<-HT.out]
 exact hown
theorem Jh (v:Value)(n i:Nat)(xs:List Value)(vv:Value)(m:Nat)(news:List Value)(w:World)(S:Nat->Prop)(B:Nat)(hS:∀g,S g->g<w.heap.size)(hB:B<=w.heap.size)(h:aT w S B 9 1 v n xs)(hx1:∀u∈xs,u.oneCell'=true)(hv:aT w S B 9 1 vv m news)(hvg:∀g,v.ownBlock=some g->vv.ownBlock≠some g)(hone:∀u∈news,u.oneCell'=true)(hn:n<=1000000)(hmm:m<=1000000)(hi:i<n):
  Calls Tryz.prog 187 #[v,.int .i64 i,.int .i64 ((i:Int)+1),vv] w fun e w'=>∃v',e= .returned v'/\aT w' S B 9 1 v' (n - 1+m) (xs.take i++news++xs.drop (i+1))/\Keep (fun g=>v.ownBlock=some g) w w':=by
 have hxl:=h.1.1
 have hnl:=hv.1.1
 rw[bg] at hxl hnl
 rcases h.1.2 with ⟨rfl,h0⟩|⟨g,cap,cur,rfl,_⟩
 ·omega
 have hvg':=hvg g rfl
 by_cases hin:n=i+1
 ·have e1:xs.drop (i+1)=[]:=dZ (by omega)
  have e2:n - 1+m=i+m:=by omega
  rw[e1,e2,dS]
  by_cases hm0:m=0
  ·subst hm0
   obtain rfl:news=[]:=bf hnl
   refine(CF g cap n i xs vv w S B h hv hn hin).mono ?_
   rintro e w' ⟨v',rfl,h1,h2⟩
   exact⟨v',rfl,by rw[dS];exact h1,h2.mono (fun k _ hk=>by rw[hk];rfl)⟩
  ·refine(CB g cap n i xs vv m news w S B hS hB h hv hone hn hmm hin (by omega)).mono ?_
   rintro e w' ⟨v',rfl,h1,h2,_⟩
   exact⟨v',rfl,h1,h2.mono (fun k _ hk=>by rw[hk];rfl)⟩
 ·by_cases hm1:m<=1
  ·refine(AZ g cap n i xs vv m news w S B h hx1 hv hvg' hone hn (by omega) hm1 _ _ rfl rfl).mono ?_
   rintro e w' ⟨v',rfl,h1,h2⟩
   exact⟨v',rfl,h1,h2.mono (fun k _ hk=>by rw[hk];rfl)⟩
  ·rcases hv.1.2 with ⟨rfl,h0⟩|⟨vb,vc,curv,rfl,_⟩
   ·omega
   ·by_cases hroom:n - 1+m<=cap
    ·refine(AY g cap n i xs vb vc m news w S B h hx1 hv (fun e=>hvg' (by rw[e];rfl)) hone hn hmm (by omega) (by omega) hroom _ _ rfl rfl).mono ?_
     rintro e w' ⟨v',rfl,h1,h2⟩
     exact⟨v',rfl,h1,h2.mono (fun k _ hk=>by rw[hk];rfl)⟩
    ·refine(A7 g cap n i xs vb vc m news w S B hS hB h hx1 hv hone hn hmm (by omega) (by omega) _ _ rfl rfl).mono ?_
     rintro e w' ⟨v',rfl,h1,h2⟩
     exact⟨v',rfl,h1,h2.mono (fun _ _ hk=>hk.elim)⟩
theorem Ba (g cap n i:Nat)(xs:List Value)(vb vc m:Nat)(news:List Value)(w:World)(S:Nat->Prop)(B:Nat)(hS:∀g,S g->g<w.heap.size)(hB:B<=w.heap.size)(h:aT w S B 3 1 (.slice (some ⟨g,0,none⟩) n cap) n xs)(hx1:∀u∈xs,u.oneCell'=true)(hv:aT w S B 3 1 (.slice (some ⟨vb,0,none⟩) m vc) m news)(hone:∀u∈news,u.oneCell'=true)(hn:n<=1000000)(hmm:m<=1000000)(hi:i+1<n)(hroom:cap<n - 1+m)(N:Nat)(L:List Value)(hN:N=n - 1+m)(hL:L=xs.take i++news++xs.drop (i+1)):
  Calls Tryz.prog 188 #[.slice (some ⟨g,0,none⟩) n cap,.int .i64 i,.int .i64 ((i:Int)+1),.slice (some ⟨vb,0,none⟩) m vc] w fun e w'=>∃v',e= .returned v'/\aT w' S B 3 1 v' N L/\Keep fH w w':=by
 obtain⟨cur,hr,hl,hx,hBg,hSg,hc,hc2⟩:=h.row
 have hc3:cap<=9223372036854775807:=by simpa [maxLen] using hc2
 have hnl:news.length=m:=by have:=hv.1.1;omega
 have hll:cur.length=cap:=by omega
 have hx':cur.take n=xs:=by rw[<-hx,bg]
 have hvs:=hv.dI
 obtain⟨vo,vc',e0,v1,v2,_,_⟩:=hv.dI.form
 cases e0
 clear h hv hl hx
 obtain⟨d,rfl⟩:∃d,n=i+1+(d+1):=⟨n - (i+2),by omega⟩
 have HN:=af hN;clear hN
 have HL:=af hL;clear hL
 have k1:(0:Int)<=(i:Int):=by omega
 have k2:(i:Int)<=(cap:Int):=by omega
 have k3:(0:Int)<=(i:Int)+1:=by omega
 have k4:(i:Int)+1<=(cap:Int):=by omega
 have k5:((i:Int)+1).toNat=i+1:=by omega
 have Hl:=af hll;clear hll
 have Hx:=af hx';clear hx'
 have Hn:=af hnl;clear hnl
 have k6:¬cap=i+1:=by omega
 have k7:(i:Int)+1<=(i:Int)+1+((d:Int)+1):=by omega
 have k8:IntKind.i64.wrap ((i:Int)+(m:Int))=(i:Int)+(m:Int):=aM _ (by omega)
 have k9:i+1+(d+1) - (i+1)=d+1:=by omega
 have k10:IntKind.i64.wrap ((i:Int)+(m:Int)+((d:Int)+1))=(i:Int)+(m:Int)+((d:Int)+1):=aM _ (by omega)
 have k11:(cap:Int)<(i:Int)+(m:Int)+((d:Int)+1):=by omega
 have k17:¬cap=i:=by omega
 have k18:(i:Int)+(m:Int)+((d:Int)+1) - (i:Int)=((m+(d+1):Nat):Int):=by omega
 have k19:i+(m+(d+1))=i+m+(d+1):=by omega
 have k20:(0:Int)<=(i:Int)+(m:Int):=by omega
 have k22:((i:Int)+(m:Int)).toNat=i+m:=by omega
 have hD:(xs.drop (i+1)).length=d+1:=by rw[aR,<-Hx.out,aF,Hl.out];omega
 have hT:cur.take i=xs.take i:=by rw[<-Hx.out,dJ,bQ (by omega)]
 have hgl:g<w.heap.size:=hr.lt
 have HD:=af hD;clear hD
 have HT:=af hT;clear hT
 go_enter Q7,MS
 go_wp2_with fail
 refine aS (fun _=>True) (fun _=>true) [0,1,2,3,4,5,6,7,8,9,10,11,12] rfl (by kernel_rfl) trivial ?_
 repeat ((refine bL (v:= ?_) rfl rfl (fun _ _ _ h=>h) rfl (fun W hW=> ?_) ?_);rotate_left;(focus ((try dsimp only at hW);skip;first|(go_simp;first|done|with_reducible rfl)));(try simp only[Act.put,ah,au,ak]))
 refine bR ?_
 go_wp2_with (first|(at_builtin;(refine dW rfl ?_);intro K hK;go_must ((refine rX (w:=w.drew) (.tmp 63) (.tmp 66) 151 3 rfl 3 1 8 _ bG gQ iF rfl (by omega) g i cap (m+(d+1)) cur rfl ?_ hr ?_ ?_ ?_ ?_ ?_ ?_);(focus (first|rfl|(show Value.int _ _=_;congr 1;first|done|omega)));(focus (rw[Hl.out];omega));(focus omega);(focus omega);(focus (unfold maxLen;omega));(focus omega);intro c1 w1 rest hr1 hl1 hc1 hc1' hk1;refine hK _ _ (Stop.of ?_))))
 have hr1:Row w1 w.heap.size 3 (cur.take i++rest):=by rw[bg] at hr1;exact hr1
 have hl1:(cur.take i++rest).length=c1:=by rw[bg,bg] at hl1;exact hl1
 have hk1:Keep fH w w1:=(Keep.refl fH w).drew.trans hk1 (fun _ _ h=>h)
 have k12:¬c1=i:=by omega
 have k14:¬c1=i+m:=by omega
 have k15:(i:Int)<=(c1:Int):=by omega
 have k16:(i:Int)+(m:Int)<=(i:Int)+(m:Int)+((d:Int)+1):=by omega
 have hc1'':c1<=9223372036854775807:=by simpa [maxLen] using hc1'
 have hci:(cur.take i).length=i:=by rw[aF,Hl.out];omega
 obtain⟨hF1,hF2⟩:=Aj (cur.take i++rest) news (xs.drop (i+1)) i (by rw[Hn.out,HD.out,hl1];omega)
 rw[Hn.out,HD.out,List.take_left' hci] at hF2
 rw[Hn.out] at hF1
 have hcs1:(Builtin.firstCells 1 m (.slice (some ⟨vb,0,none⟩) m vc)).run Tryz.prog w1= .ok news.toArray w1:=by
  have h1:=bJ.first (P:=Tryz.prog) (w:=w1) (hvs.keep fun g' hg hl hs=>⟨hk1.block g' hl id,hs⟩) m (aG _)
  rwa [aQ (by rw[Hn.out];omega)] at h1
 have Hl1:=af hl1;clear hl1
 have HF1:=af hF1;clear hF1
 have HF2:=af hF2;clear hF2
 have Hc1:=af hcs1;clear hcs1
 have Hci:=af hci;clear hci
 refine Stop.on ?_
 go_wp2_with (first|((refine dW rfl ?_);intro K hK;(refine gG (.tmp 70) (.tmp 71) 151 151 rfl 3 1 8 _ bG iF w.heap.size i 3 m (i+m+(d+1) - i) (c1 - i) (some ⟨w.heap.size,i,none⟩) _ ?_ hr1 (.slice (some ⟨vb,0,none⟩) m vc) rfl m news rfl ?_ ?_ Hc1.out (fun _=>rfl) ?_ hone ?_);go_must ((focus (first|rfl|(show Value.slice _ _ _=_;congr 1;omega)));(focus (exact(bQ (by omega)).symm));(focus (rw[Hn.out,bg]));(focus (rw[Hl1.out,Hn.out];omega));intro w2 hr2 hk2;refine hK _ _ (Stop.of ?_))))
 have hkk:Keep fH w w2:=hk1.trans hk2 (fun _ hl e=>absurd hl (by omega))
 have hg2:Row w2 g 3 cur:=hr.keep hkk id
 have hcs:(Builtin.firstCells 1 (d+1) (.slice (some ⟨g,i+1,none⟩) (d+1) (cap - (i+1)))).run Tryz.prog w2.drew= .ok (xs.drop (i+1)).toArray w2.drew:=by
  have h1:=(Row.dI (w:=w2.drew) (S:=fH) (k:=1) (off:=i+1) hg2 (d+1) (cap - (i+1)) (by rw[Hl.out];omega) id (by omega) (by unfold maxLen;omega)).first (P:=Tryz.prog) (d+1) (aG _)
  rw[dJ,iy,bg] at h1
  rwa [show (cur.drop (i+1)).take (d+1)=xs.drop (i+1) by rw[<-Hx.out,iC];congr 1;omega] at h1
 have Hcs:=af hcs;clear hcs
 have k23:i+m+(d+1) - (i+m)=d+1:=by omega
 refine Stop.on ?_
 go_wp2_with fail
 refine aS (fun _=>True) (fun i=> !([9].contains i)) [0,1,2,3,4,5,6,7,8,9] rfl (by kernel_rfl) trivial ?_
 repeat ((refine bL (v:= ?_) rfl rfl (fun _ _ _ h=>h) rfl (fun W hW=> ?_) ?_);rotate_left;(focus ((try dsimp only at hW);skip;first|(go_simp;first|done|with_reducible rfl)));(try simp only[Act.put,ah,au,ak]))
 refine jk rfl rfl rfl (by kernel_rfl) ?_
 intro K hK
 refine gG (.tmp 78) (.tmp 81) 151 151 rfl 3 1 8 _ bG iF w.heap.size (i+m) 3 (d+1) (d+1) (c1 - (i+m)) (some ⟨w.heap.size,i+m,none⟩) _ rfl (w:=w2.drew) hr2 (.slice (some ⟨g,i+1,none⟩) (d+1) (cap - (i+1))) rfl (d+1) (xs.drop (i+1)) rfl (iy _).symm (by rw[HD.out,bg]) Hcs.out (fun _=>rfl) ?_ (fun u hu=>hx1 u (cO hu)) ?_
 ·rw[eD _ _ _ (by rw[Hn.out,Hl1.out];omega),HD.out,Hl1.out];omega
 intro w3 hr3 hk3
 refine hK.out _ _ (bR ?_)
 go_wp2
 go_ret
 have hown:=Row.own (S:=S) (B:=B) (k:=1) hr3 (i+m+(d+1)) (by rw[HF1.out,Hl1.out,bg]) hB (fun hs=>absurd (hS _ hs) (dM _)) (by omega) hc1'
 rw[bg,HF2.out] at hown
 refine⟨_,rfl,?_,hkk.drew.trans hk3 (fun _ hl e=>absurd hl (by omega))⟩
 rw[HL.out,show N=i+m+(d+1) by rw[HN.out];omega,<-HT.out]
 exact hown
theorem Ji (v:Value)(n i:Nat)(xs:List Value)(vv:Value)(m:Nat)(news:List Value)(w:World)(S:Nat->Prop)(B:Nat)(hS:∀g,S g->g<w.heap.size)(hB:B<=w.heap.size)(h:aT w S B 3 1 v n xs)(hx1:∀u∈xs,u.oneCell'=true)(hv:aT w S B 3 1 vv m news)(hvg:∀g,v.ownBlock=some g->vv.ownBlock≠some g)(hone:∀u∈news,u.oneCell'=true)(hn:n<=1000000)(hmm:m<=1000000)(hi:i<n):
  Calls Tryz.prog 188 #[v,.int .i64 i,.int .i64 ((i:Int)+1),vv] w fun e w'=>∃v',e= .returned v'/\aT w' S B 3 1 v' (n - 1+m) (xs.take i++news++xs.drop (i+1))/\Keep (fun g=>v.ownBlock=some g) w w':=by
 have hxl:=h.1.1
 have hnl:=hv.1.1
 rw[bg] at hxl hnl
 rcases h.1.2 with ⟨rfl,h0⟩|⟨g,cap,cur,rfl,_⟩
 ·omega
 have hvg':=hvg g rfl
 by_cases hin:n=i+1
 ·have e1:xs.drop (i+1)=[]:=dZ (by omega)
  have e2:n - 1+m=i+m:=by omega
  rw[e1,e2,dS]
  by_cases hm0:m=0
  ·subst hm0
   obtain rfl:news=[]:=bf hnl
   refine(CJ g cap n i xs vv w S B h hv hn hin).mono ?_
   rintro e w' ⟨v',rfl,h1,h2⟩
   exact⟨v',rfl,by rw[dS];exact h1,h2.mono (fun k _ hk=>by rw[hk];rfl)⟩
  ·refine(CG g cap n i xs vv m news w S B hS hB h hv hone hn hmm hin (by omega)).mono ?_
   rintro e w' ⟨v',rfl,h1,h2,_⟩
   exact⟨v',rfl,h1,h2.mono (fun k _ hk=>by rw[hk];rfl)⟩
 ·by_cases hm1:m<=1
  ·refine(A9 g cap n i xs vv m news w S B h hx1 hv hvg' hone hn (by omega) hm1 _ _ rfl rfl).mono ?_
   rintro e w' ⟨v',rfl,h1,h2⟩
   exact⟨v',rfl,h1,h2.mono (fun k _ hk=>by rw[hk];rfl)⟩
  ·rcases hv.1.2 with ⟨rfl,h0⟩|⟨vb,vc,curv,rfl,_⟩
   ·omega
   ·by_cases hroom:n - 1+m<=cap
    ·refine(A8 g cap n i xs vb vc m news w S B h hx1 hv (fun e=>hvg' (by rw[e];rfl)) hone hn hmm (by omega) (by omega) hroom _ _ rfl rfl).mono ?_
     rintro e w' ⟨v',rfl,h1,h2⟩
     exact⟨v',rfl,h1,h2.mono (fun k _ hk=>by rw[hk];rfl)⟩
    ·refine(Ba g cap n i xs vb vc m news w S B hS hB h hx1 hv hone hn hmm (by omega) (by omega) _ _ rfl rfl).mono ?_
     rintro e w' ⟨v',rfl,h1,h2⟩
     exact⟨v',rfl,h1,h2.mono (fun _ _ hk=>hk.elim)⟩
end Go.Proofs.YtpgdljlghiifjaaGreatDoor
