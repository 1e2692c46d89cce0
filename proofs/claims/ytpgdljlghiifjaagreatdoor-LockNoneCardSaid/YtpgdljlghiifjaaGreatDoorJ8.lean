/- parts -/
import Derived.Test.YtpgdljlghiifjaaGreatDoorJ1
import Derived.Test.YtpgdljlghiifjaaGreatDoorJ2
import Derived.Lib.Overlaps
namespace Go.Proofs.YtpgdljlghiifjaaGreatDoor
open Go.RowKit
set_option maxRecDepth 100000
set_option maxHeartbeats 8000000
set_option linter.all false
theorem Nh {α:Type} (cur xs news:List α) (i n cap k:Nat) (hi:i<n) (hc:n+1≤cap) (hl:cur.length=cap*k) (hx:cur.take (n*k)=xs) (hnl:news.length=k):
  (splice cur ((i+1)*k) (xs.drop (i*k))).length=cap*k∧(splice (splice cur ((i+1)*k) (xs.drop (i*k))) (i*k) news).length=cap*k∧
  (splice (splice cur ((i+1)*k) (xs.drop (i*k))) (i*k) news).take ((n+1)*k)=xs.take (i*k)++news++xs.drop (i*k):=by
 have hik:i*k≤n*k:=bW _ (gP hi)
 have hik1:(i+1)*k≤n*k:=bW _ hi
 have hnk1:(n+1)*k≤cap*k:=bW _ hc
 rw[eF,jY] at hik1 hnk1
 have hxl:xs.length=n*k:=by rw[←hx,aD];omega
 have e2:(xs.drop (i*k)).length=n*k - i*k:=by rw[aO,hxl]
 have hl1:(splice cur ((i+1)*k) (xs.drop (i*k))).length=cap*k:=by rw[length_splice _ _ _ (by rw[e2,eF,jY];omega)];exact hl
 have hl2:(splice (splice cur ((i+1)*k) (xs.drop (i*k))) (i*k) news).length=cap*k:=by rw[length_splice _ _ _ (by rw[hl1];omega)];exact hl1
 refine⟨hl1,hl2,?_⟩
 have e1:(cur.take (i*k)).length=i*k:=by rw[aD];omega
 have e3:xs.take (i*k)=cur.take (i*k):=by rw[←hx,dF,bM (by omega)]
 have e4:splice cur ((i+1)*k) (xs.drop (i*k))=cur.take (i*k)++((cur.drop (i*k)).take k++(xs.drop (i*k)++cur.drop ((i+1)*k+(xs.drop (i*k)).length))):=by
  unfold splice
  rw[eF,jY,List.take_add,aL]
 rw[e4,nW _ _ _ _ _ e1 (by rw[aD,aO,hnl];omega),e3,←aL,←aL,
  bQ (by simp only[aC,e1,e2,hnl,eF,jY];omega),aN (by simp only[aC,e1,e2,hnl,eF,jY];omega)]
theorem KT {α:Type} (cur rest xs news:List α) (i n c k:Nat) (hi:i<n) (hc:n+1≤c) (hx:cur.take (n*k)=xs) (hcl:n*k≤cur.length) (hl:(cur.take (i*k)++rest).length=c*k) (hnl:news.length=k):
  (splice (cur.take (i*k)++rest) (i*k) news).length=c*k∧(splice (splice (cur.take (i*k)++rest) (i*k) news) ((i+1)*k) (xs.drop (i*k))).length=c*k∧
  (splice (splice (cur.take (i*k)++rest) (i*k) news) ((i+1)*k) (xs.drop (i*k))).take ((n+1)*k)=xs.take (i*k)++news++xs.drop (i*k):=by
 have hik:i*k≤n*k:=bW _ (gP hi)
 have hik1:(i+1)*k≤n*k:=bW _ hi
 have hnk1:(n+1)*k≤c*k:=bW _ hc
 rw[eF,jY] at hik1 hnk1
 have hxl:xs.length=n*k:=by rw[←hx,aD];omega
 have e2:(xs.drop (i*k)).length=n*k - i*k:=by rw[aO,hxl]
 have e1:(cur.take (i*k)).length=i*k:=by rw[aD];omega
 have e3:xs.take (i*k)=cur.take (i*k):=by rw[←hx,dF,bM (by omega)]
 have hrl:rest.length=c*k - i*k:=by rw[aC,e1] at hl;omega
 have hl1:(splice (cur.take (i*k)++rest) (i*k) news).length=c*k:=by rw[length_splice _ _ _ (by rw[hl];omega)];exact hl
 have hl2:(splice (splice (cur.take (i*k)++rest) (i*k) news) ((i+1)*k) (xs.drop (i*k))).length=c*k:=by rw[length_splice _ _ _ (by rw[hl1,e2,eF,jY];omega)];exact hl1
 refine⟨hl1,hl2,?_⟩
 have e4:splice (cur.take (i*k)++rest) (i*k) news=(cur.take (i*k)++news)++((rest.drop k).take (n*k - i*k)++(rest.drop k).drop (n*k - i*k)):=by
  rw[bI]
  have:=nW (cur.take (i*k)) (rest.take k) (rest.drop k) news (i*k) e1 (by rw[aD,hnl];omega)
  rw[bI] at this
  rw[this,aL]
 rw[e4,nW _ _ _ _ _ (by simp only[aC,e1,hnl,eF,jY]) (by rw[e2,aD,aO];omega),e3,←aL,
  bQ (by simp only[aC,e1,e2,hnl,eF,jY];omega),aN (by simp only[aC,e1,e2,hnl,eF,jY];omega)]
theorem Iw (v:Value) (n:Nat) (xs:List Value) (vb:Nat) (news:List Value) (w:World) (S:Nat→Prop) (B:Nat) (hS:∀g,S g→g<w.heap.size) (hB:B≤w.heap.size) (h:aS w S B 130 2 v n xs) (hv:Row w vb 130 news) (hnl:news.length=2) (hone:∀u∈news,u.oneCell'=true) (hn:n≤1000000):
  Calls Tryz.prog 115 #[v,.int .i64 n,.slice (some ⟨vb,0,none⟩) 1 1] w fun e w'=>∃v',e= .returned v'∧aS w' S B 130 2 v' (n+1) (xs++news)∧Keep (fun g=>v.ownBlock=some g) w w'∧Below B w w':=by
 have hsrc:Src Tryz.prog 2 126 (.slice (some ⟨vb,0,none⟩) 1 1) 1 news w:=by
  have:=(hv.dD (S:=fO) (k:=2) (off:=0) 1 1 (by omega) id (aG _) (by simp[maxLen])).src Tryz.underlying126
  rw[eT,aN (by omega)] at this
  exact this hone
 have hh:=h
 obtain⟨ao,c,rfl,h1,h2,h3,h4⟩:=h.dD.form
 have k1:n - n=0:=by omega
 have Hone:=af hone;clear hone
 have Hnl:=af hnl;clear hnl
 go_enter Tryz.func115,Tryz.ntmps115
 go_wp2_with (at_builtin;(refine dK rfl (.tmp 23) (.tmp 24) 126 126 rfl S B 130 2 32 _ Tryz.underlying126 jO rfl (.slice ao n c) _ _ rfl hh (.slice (some ⟨vb,0,none⟩) 1 1) _ _ rfl hsrc hS hB ?_ ?_ ?_);(focus (unfold maxLen;omega));(focus omega);intro ao1 c1 w1 hown1 hk1 hb1 hd1)
 all_goals
  go_ret
  exact⟨_,rfl,hown1,hk1.mono (fun _ _ h=>by cases ao<;>exact h),hb1⟩
theorem Iu (g cap n i:Nat) (xs:List Value) (vb:Nat) (news:List Value) (w:World) (S:Nat→Prop) (B:Nat) (h:aS w S B 130 2 (.slice (some ⟨g,0,none⟩) n cap) n xs) (hx1:∀u∈xs,u.oneCell'=true) (hv:Row w vb 130 news) (hvg:vb≠g) (hnl:news.length=2) (hone:∀u∈news,u.oneCell'=true) (hn:n≤1000000) (hi:i<n) (hroom:n+1≤cap):
  Calls Tryz.prog 115 #[.slice (some ⟨g,0,none⟩) n cap,.int .i64 i,.slice (some ⟨vb,0,none⟩) 1 1] w fun e w'=>∃v',e= .returned v'∧aS w' S B 130 2 v' (n+1) (xs.take (i*2)++news++xs.drop (i*2))∧Keep (fun k=>k=g) w w':=by
 obtain⟨cur,hr,hl,hx,hBg,hSg,hc,hc2⟩:=h.row
 have hc3:cap≤9223372036854775807:=by simpa [maxLen] using hc2
 have hxl:=h.1.1
 clear h
 have hov:(callFunc 157 #[.slice (some ⟨vb,0,none⟩) 1 1,.slice (some ⟨g,(i+1)*2,none⟩) (n - i) (cap - (i+1))]).run Tryz.prog w= .ok (.value (.bool false)) w:=by
  rw[qx Tryz.func157 (by kernel_rfl) (by kernel_rfl) (by kernel_rfl) (e:=Extern.SlicesOverlaps.overlaps #[126,126] #[4]) (by kernel_rfl)]
  rw[Lib.run_overlaps_apart w 126 4 130 Tryz.underlying126 2 (fun w=>by kernel_rfl) ⟨vb,0,none⟩ ⟨g,(i+1)*2,none⟩ 1 1 (n - i) (cap - (i+1)) hvg 130 130 2 (cap*2)
   (by unfold Row at hv;simp[World.shape?,hv,hnl]) (by unfold Row at hr;simp[World.shape?,hr,hl]) (by omega) (hv.frozen 0) (hv.frozen 2)]
  rfl
 have k1:(0:Int)≤(i:Int):=by omega
 have k2:(i:Int)≤(cap:Int):=by omega
 have k3:(0:Int)≤(i:Int)+1:=by omega
 have k4:(i:Int)+1≤(n:Int)+1:=by omega
 have k5:((i:Int)+1).toNat=i+1:=by omega
 have k6:((n:Int)+1).toNat=n+1:=by omega
 have k7:(n:Int)+1≤(cap:Int):=by omega
 have k8:((i:Int)==(n:Int))=false:=by rw[di];omega
 have k9:IntKind.i64.wrap ((i:Int)+1)=(i:Int)+1:=aR _ (by omega)
 have k10:¬cap=i:=by omega
 have k11:(i:Int)≤(n:Int)+1:=by omega
 have k12:¬cap=i+1:=by omega
 have hsrc1:bE w.drew fO 2 (.slice (some ⟨g,i*2,none⟩) (n+1 - i) (cap - i)) (n+1 - i) ((cur.drop (i*2)).take ((n+1 - i)*2)):=Row.dD (w:=w.drew) hr _ _ (by omega) id (by omega) (by unfold maxLen;omega)
 have hcs1:((cur.drop (i*2)).take ((n+1 - i)*2)).take ((n - i)*2)=xs.drop (i*2):=by
  rw[dF,bM (by omega),←hx,gQ];congr 1;omega
 have hsrc2:bE w fO 2 (.slice (some ⟨vb,0,none⟩) 1 1) 1 news:=by
  have:=hv.dD (S:=fO) (k:=2) (off:=0) 1 1 (by omega) id (aG _) (by simp[maxLen])
  rwa [eT,aN (by omega)] at this
 have Hl:=af hl;clear hl
 have Hx:=af hx;clear hx
 have Hxl:=af hxl;clear hxl
 have Hnl:=af hnl;clear hnl
 have Hcs1:=af hcs1;clear hcs1
 go_enter Tryz.func115,Tryz.ntmps115
 go_wp2
 go_region_held3 (fun _=>True) (trivial) (first|((refine wR rfl (fQ (.tmp 73) (.tmp 76) 126 126 rfl 130 2 32 _ Tryz.underlying126 jO g ((i+1)*2) 130 (n - i) (n - i) (cap - (i+1)) (some ⟨g,(i+1)*2,none⟩) cur ?_ hr (.slice (some ⟨g,i*2,none⟩) (n+1 - i) (cap - i)) ?_ (n+1 - i) (xs.drop (i*2)) rfl ?_ ?_ ?_ (fun _=>rfl) ?_ ?_ ?_));(focus (first|rfl|(show Value.slice _ _ _=_;congr 1;omega)));(focus (first|rfl|(show Value.slice _ _ _=_;congr 1<;>omega)));(focus (exact(Nat.min_eq_right (by omega)).symm));(focus (rw[aO,Hxl.out];omega));(focus (rw[←Hcs1.out];exact hsrc1.first (n - i) (by omega)));(focus (rw[aO,Hxl.out,Hl.out];omega));(focus (exact fun u hu=>hx1 u (bS hu)));intro w1 hr1 hk1))
 have hnews:(Builtin.firstCells 2 1 (.slice (some ⟨vb,0,none⟩) 1 1)).run Tryz.prog w1= .ok news.toArray w1:=by
  have h1:bE w1 fO 2 (.slice (some ⟨vb,0,none⟩) 1 1) 1 news:=hsrc2.keep fun g' hg' hl _=>by cases hg';exact⟨hk1.block vb hl hvg,id⟩
  have:=h1.first (P:=Tryz.prog) 1 (aG _)
  rwa [aN (by have:=Hnl.out;omega)] at this
 obtain⟨m1,m2,m3⟩:=Nh cur xs news i n cap 2 hi hroom Hl.out Hx.out Hnl.out
 have M1:=af m1;clear m1
 have M2:=af m2;clear m2
 have M3:=af m3;clear m3
 go_wp2_with (first|((refine dM rfl ?_);intro K hK;(refine fQ (.tmp 80) (.tmp 81) 126 126 rfl 130 2 32 _ Tryz.underlying126 jO g (i*2) 130 1 (n+1 - i) (cap - i) (some ⟨g,i*2,none⟩) _ rfl hr1 (.slice (some ⟨vb,0,none⟩) 1 1) rfl 1 news rfl ?_ ?_ hnews (fun _=>rfl) ?_ hone ?_);(focus (exact(bM (by omega)).symm));(focus (rw[Hnl.out]));(focus (rw[M1.out,Hnl.out];omega));intro w2 hr2 hk2;refine hK _ _ ?_))
 go_ret
 refine⟨_,rfl,?_,((Keep.refl (· =g) w).drew.trans hk1 (fun _ _ h=>h)).trans hk2 (fun _ _ h=>h)⟩
 rw[←M3.out]
 exact Row.own hr2 (n+1) M2.out hBg hSg hroom hc2
theorem sG {α:Type} (X b:List α) (off:Nat) (h:off+b.length≤X.length):(splice X off b).take (off+b.length)=X.take off++b:=by
 unfold splice
 rw[←aL,bQ (by simp only[aC,aD];omega),aN (by simp only[aC,aD];omega)]
theorem lI {α:Type} (X b:List α) (off t:Nat) (ht:t≤off) (h:off≤X.length):(splice X off b).take t=X.take t:=by
 unfold splice
 rw[bQ (by rw[aD];omega),dF,bM ht]
theorem F7 {α:Type} (X b:List α) (off:Nat) (h:off≤X.length):(splice X off b).drop off=b++X.drop (off+b.length):=by
 unfold splice
 rw[eY (by rw[aD];omega),dQ (by rw[aD];omega),gB]
theorem pJ {α:Type} (X b:List α) (off t:Nat) (ht:off+b.length≤t) (h:off≤X.length):(splice X off b).drop t=X.drop t:=by
 obtain⟨d,rfl⟩:∃d,t=off+b.length+d:=⟨t - (off+b.length),by omega⟩
 have e:(splice X off b).drop (off+b.length)=X.drop (off+b.length):=by
  unfold splice
  rw[←aL]
  exact List.drop_left' (by simp only[aC,aD];omega)
 rw[←J3,e,J3]
theorem zn {α:Type} (cur news b:List α) (i:Nat) (h:i+news.length+b.length≤cur.length):
  (splice (splice cur i news) (i+news.length) b).length=cur.length∧(splice (splice cur i news) (i+news.length) b).take (i+news.length+b.length)=cur.take i++news++b:=by
 have h1:(splice cur i news).length=cur.length:=length_splice _ _ _ (by omega)
 exact⟨(length_splice _ _ _ (by omega)).trans h1,by rw[sG _ _ _ (by omega),sG _ _ _ (by omega)]⟩
theorem Jo {α:Type} (cur news b:List α) (i:Nat) (h:i+news.length+b.length≤cur.length):
  (splice (splice cur (i+news.length) b) i news).length=cur.length∧(splice (splice cur (i+news.length) b) i news).take (i+news.length+b.length)=cur.take i++news++b:=by
 have h1:(splice cur (i+news.length) b).length=cur.length:=length_splice _ _ _ (by omega)
 refine⟨(length_splice _ _ _ (by omega)).trans h1,?_⟩
 rw[List.take_add,sG _ _ _ (by omega),lI _ _ _ _ (by omega) (by omega)]
 congr 1
 rw[pJ _ _ _ _ (aG _) (by omega),F7 _ _ _ (by omega),bQ (aG _),bU]
theorem BJ (g cap n i:Nat) (xs:List Value) (vv:Value) (m:Nat) (news:List Value) (w:World) (S:Nat→Prop) (B:Nat) (hS:∀g,S g→g<w.heap.size) (hB:B≤w.heap.size) (h:aS w S B 9 1 (.slice (some ⟨g,0,none⟩) n cap) n xs) (hv:aS w S B 9 1 vv m news) (hone:∀u∈news,u.oneCell'=true) (hn:n≤1000000) (hm:m≤1000000) (hi:n=i+1) (hm0:0<m):
  Calls Tryz.prog 187 #[.slice (some ⟨g,0,none⟩) n cap,.int .i64 i,.int .i64 ((i:Int)+1),vv] w fun e w'=>∃v',e= .returned v'∧aS w' S B 9 1 v' (i+m) (xs.take i++news)∧Keep (· =g) w w'∧Below B w w':=by
 obtain⟨cur,hr,hl,hx,hBg,hSg,hc,hc2⟩:=h.row
 have hc3:cap≤9223372036854775807:=by simpa [maxLen] using hc2
 have hh:aS w S B 9 1 (.slice (some ⟨g,0,none⟩) i cap) i (xs.take i):=by
  have:=Row.own hr i hl hBg hSg (by omega) hc2
  rwa [show cur.take (i*1)=xs.take i by rw[←hx,dF,aV,aV,bM (by omega)]] at this
 have hsrc:Src Tryz.prog 1 22 vv m news w:=hv.dD.src Tryz.underlying22 hone
 obtain⟨vo,vc,rfl,v1,v2,v3,v4⟩:=hv.dD.form
 clear h hv hx hl hr
 subst hi
 have k1:(0:Int)≤(i:Int):=by omega
 have k2:(i:Int)≤(cap:Int):=by omega
 have k3:(0:Int)≤(i:Int)+1:=by omega
 have k4:(i:Int)+1≤(cap:Int):=by omega
 have k5:((i:Int)+1).toNat=i+1:=by omega
 have k6:¬(((i+m:Nat):Int)<((i+1:Nat):Int)):=by omega
 have k7:¬((i:Int)+(m:Int)<(i:Int)+1):=by omega
 have Hone:=af hone;clear hone
 go_enter Tryz.func187,Tryz.ntmps187
 go_wp2_with (at_builtin;(refine dK rfl (.tmp 32) (.tmp 33) 22 22 rfl S B 9 1 16 _ Tryz.underlying22 fV rfl (.slice (some ⟨g,0,none⟩) i cap) _ _ rfl hh (.slice vo m vc) _ _ rfl hsrc hS hB ?_ ?_ ?_);(focus (unfold maxLen;omega));(focus omega);intro ao1 c1 w1 hown1 hk1 hb1 hd1)
 all_goals
  go_ret
  exact⟨_,rfl,hown1,hk1.mono (fun _ _ h=>by cases h;rfl),hb1⟩
theorem BK (g cap n i:Nat) (xs:List Value) (vv:Value) (w:World) (S:Nat→Prop) (B:Nat) (h:aS w S B 9 1 (.slice (some ⟨g,0,none⟩) n cap) n xs) (hv:aS w S B 9 1 vv 0 []) (hn:n≤1000000) (hi:n=i+1):
  Calls Tryz.prog 187 #[.slice (some ⟨g,0,none⟩) n cap,.int .i64 i,.int .i64 ((i:Int)+1),vv] w fun e w'=>∃v',e= .returned v'∧aS w' S B 9 1 v' i (xs.take i)∧Keep (· =g) w w':=by
 obtain⟨cur,hr,hl,hx,hBg,hSg,hc,hc2⟩:=h.row
 have hc3:cap≤9223372036854775807:=by simpa [maxLen] using hc2
 have hsrc:Src Tryz.prog 1 22 vv 0 [] w:=hv.dD.src Tryz.underlying22 (by simp)
 obtain⟨vo,vc,rfl,v1,v2,v3,v4⟩:=hv.dD.form
 clear h hv
 subst hi
 have hx':cur.take i=xs.take i:=by rw[←hx,dF,aV,bM (by omega)]
 have hll:cur.length=cap:=by omega
 have e1:splice cur i ([]:List Value)=cur:=by simp[splice]
 have hr0:Row w g 9 (splice cur (i*1) [])→Row w g 9 cur:=by rw[aV,e1];exact id
 have k1:(0:Int)≤(i:Int):=by omega
 have k2:(i:Int)≤(cap:Int):=by omega
 have k3:(0:Int)≤(i:Int)+1:=by omega
 have k4:(i:Int)+1≤(cap:Int):=by omega
 have k5:((i:Int)+1).toNat=i+1:=by omega
 have k6:i+1 - i=1:=by omega
 have k7:¬cap=i:=by omega
 have Hl:=af hll;clear hll hl hx
 have E1:=af e1;clear e1 hr0
 go_enter Tryz.func187,Tryz.ntmps187
 go_wp2_with (first
  |(refine dM rfl ?_;intro K hK;(refine vR (.tmp 32) (.tmp 33) 22 22 rfl 9 1 16 _ Tryz.underlying22 fV g i cap _ cur rfl hr (.slice vo 0 vc) 0 [] rfl hsrc ?_ ?_ ?_);(focus omega);(focus (have:=Hl.out;simp only[bG];omega));intro w1 hr1 hk1;refine hK _ _ ?_)
  |(refine dM rfl ?_;intro K hK;(refine kD (.tmp 43) 22 rfl 9 1 16 _ Tryz.underlying22 fV rfl g i 9 1 _ (some ⟨g,i,none⟩) _ rfl hr1 (fun _=>rfl) ?_ ?_ ?_);(focus (simp only[aV,E1.out,Hl.out];omega));(focus (exact jv _ _ (by simp[Value.cells,Value.oneCell']) (by simp[Value.cells])));intro w2 zs hz hr2 hk2;refine hK _ _ ?_))
 all_goals
  go_ret
  rw[aV,E1.out] at hr2
  have hlz:(splice cur i zs).length=cap:=by rw[length_splice _ _ _ (by have:=Hl.out;omega)];exact Hl.out
  have:=Row.own (k:=1) hr2 i (by omega) hBg hSg (by omega) hc2
  rw[aV,lI _ _ _ _ (aG _) (by have:=Hl.out;omega),hx'] at this
  exact⟨_,rfl,this,hk1.trans hk2 (fun _ _ h=>h)⟩
theorem zW (g cap n i:Nat) (xs:List Value) (vv:Value) (m:Nat) (news:List Value) (w:World) (S:Nat→Prop) (B:Nat) (h:aS w S B 9 1 (.slice (some ⟨g,0,none⟩) n cap) n xs) (hx1:∀u∈xs,u.oneCell'=true) (hv:aS w S B 9 1 vv m news) (hvg:vv.ownBlock≠some g) (hone:∀u∈news,u.oneCell'=true) (hn:n≤1000000) (hi:i+1<n) (hm:m≤1) (N:Nat) (L:List Value) (hN:N=n - 1+m) (hL:L=xs.take i++news++xs.drop (i+1)):
  Calls Tryz.prog 187 #[.slice (some ⟨g,0,none⟩) n cap,.int .i64 i,.int .i64 ((i:Int)+1),vv] w fun e w'=>∃v',e= .returned v'∧aS w' S B 9 1 v' N L∧Keep (· =g) w w':=by
 obtain⟨cur,hr,hl,hx,hBg,hSg,hc,hc2⟩:=h.row
 have hc3:cap≤9223372036854775807:=by simpa [maxLen] using hc2
 have hnl:news.length=m:=by have:=hv.1.1;omega
 have hll:cur.length=cap:=by omega
 have hx':cur.take n=xs:=by rw[←hx,aV]
 obtain⟨vo,vc,rfl,v1,v2,v3,v4⟩:=hv.dD.form
 have hvs:=hv.dD
 clear h hv hl hx
 obtain⟨d,rfl⟩:∃d,n=i+1+(d+1):=⟨n - (i+2),by omega⟩
 have HN:=af hN;clear hN
 have HL:=af hL;clear hL
 have k1:(0:Int)≤(i:Int):=by omega
 have k2:(i:Int)≤(cap:Int):=by omega
 have k3:(0:Int)≤(i:Int)+1:=by omega
 have k4:(i:Int)+1≤(cap:Int):=by omega
 have k5:((i:Int)+1).toNat=i+1:=by omega
 have Hl:=af hll;clear hll
 have Hx:=af hx';clear hx'
 have Hn:=af hnl;clear hnl
 go_enter Tryz.func187,Tryz.ntmps187
 have k6:¬cap=i+1:=by omega
 have k7:(i:Int)+1≤(i:Int)+1+((d:Int)+1):=by omega
 have k8:IntKind.i64.wrap ((i:Int)+(m:Int))=(i:Int)+(m:Int):=aR _ (by omega)
 have k9:i+1+(d+1) - (i+1)=d+1:=by omega
 have k10:IntKind.i64.wrap ((i:Int)+(m:Int)+((d:Int)+1))=(i:Int)+(m:Int)+((d:Int)+1):=aR _ (by omega)
 have k11:¬((cap:Int)<(i:Int)+(m:Int)+((d:Int)+1)):=by omega
 have k12:((i:Int)+(m:Int)+((d:Int)+1)).toNat=i+m+(d+1):=by omega
 have k13:(0:Int)≤(i:Int)+(m:Int)+((d:Int)+1):=by omega
 have k14:(i:Int)+(m:Int)+((d:Int)+1)≤cap:=by omega
 have k15:(i:Int)+(m:Int)≤(i:Int)+1:=by omega
 have k16:(i:Int)≤(i:Int)+(m:Int)+((d:Int)+1):=by omega
 have k17:¬cap=i:=by omega
 go_wp2_with fail
 refine aP (fun _=>True) (fun _=>true) [0,1,2,3,4,5,6,7,8,9,10,11,12] rfl (by kernel_rfl) trivial ?_
 repeat ((refine bO (v:= ?_) rfl rfl (fun _ _ _ h=>h) rfl (fun W hW=> ?_) ?_);rotate_left;(focus ((try dsimp only at hW);skip;first|(go_simp;first|done|with_reducible rfl)));(try simp only[Act.put,aj,au,ak]))
 refine bR ?_
 have hD:(xs.drop (i+1)).length=d+1:=by rw[aO,←Hx.out,aD,Hl.out];omega
 have hT:cur.take i=xs.take i:=by rw[←Hx.out,dF,bM (by omega)]
 obtain⟨hF1,hF2⟩:=zn cur news (xs.drop (i+1)) i (by rw[Hn.out,hD,Hl.out];omega)
 rw[Hn.out,hD,hT] at hF2
 rw[Hn.out] at hF1
 have hcs1:(Builtin.firstCells 1 m (.slice vo m vc)).run Tryz.prog w.drew= .ok news.toArray w.drew:=by
  have h1:=bE.first (P:=Tryz.prog) (w:=w.drew) (hvs.keep fun _ _ _ h=>⟨rfl,h⟩) m (aG _)
  rwa [aN (by rw[Hn.out];omega)] at h1
 have hcs2:∀W,Row W g 9 (splice cur i news)→(Builtin.firstCells 1 (d+1) (.slice (some ⟨g,i+1,none⟩) (d+1) (cap - (i+1)))).run Tryz.prog W= .ok (xs.drop (i+1)).toArray W:=by
  intro W hW
  have h1:=(Row.dD (S:=fO) (k:=1) (off:=i+1) hW (d+1) (cap - (i+1)) (by rw[length_splice _ _ _ (by rw[Hn.out,Hl.out];omega),Hl.out];omega) id (by omega) (by unfold maxLen;omega)).first (P:=Tryz.prog) (d+1) (aG _)
  rw[dF,gN,pJ _ _ _ _ (by rw[Hn.out];omega) (by rw[Hl.out];omega),aV] at h1
  rwa [show (cur.drop (i+1)).take (d+1)=xs.drop (i+1) by rw[←Hx.out,gQ];congr 1;omega] at h1
 have HD:=af hD;clear hD
 have HT:=af hT;clear hT
 have HF1:=af hF1;clear hF1
 have HF2:=af hF2;clear hF2
 have Hc1:=af hcs1;clear hcs1
 have Hc2:=af hcs2;clear hcs2
 have k18:¬cap=i+m:=by omega
 have k19:i+m+(d+1) - (i+m)=d+1:=by omega
 have k20:(0:Int)≤(i:Int)+(m:Int):=by omega
 have k21:(i:Int)+(m:Int)≤(i:Int)+(m:Int)+((d:Int)+1):=by omega
 have k22:((i:Int)+(m:Int)).toNat=i+m:=by omega
 have k23:(i:Int)+(m:Int)+((d:Int)+1)≤(i:Int)+1+((d:Int)+1):=by omega
 go_wp2_with (first
  |((refine dM rfl ?_);intro K hK;(refine fQ (.tmp 95) (.tmp 96) 22 22 rfl 9 1 16 _ Tryz.underlying22 fV g i 9 m (i+m+(d+1) - i) (cap - i) (some ⟨g,i,none⟩) cur rfl hr (.slice vo m vc) rfl m news rfl ?_ ?_ Hc1.out (fun _=>rfl) ?_ hone ?_);(focus (exact(bM (by omega)).symm));(focus (rw[Hn.out,aV]));(focus (rw[Hn.out,Hl.out];omega));intro w1 hr1 hk1;refine hK _ _ (Stop.of ?_)))
 refine Stop.on ?_
 go_wp2_with fail
 refine aP (fun _=>True) (fun i=> !([9].contains i)) [0,1,2,3,4,5,6,7,8,9] rfl (by kernel_rfl) trivial ?_
 repeat ((refine bO (v:= ?_) rfl rfl (fun _ _ _ h=>h) rfl (fun W hW=> ?_) ?_);rotate_left;(focus ((try dsimp only at hW);skip;first|(go_simp;first|done|with_reducible rfl)));(try simp only[Act.put,aj,au,ak]))
 refine ja rfl rfl rfl (by kernel_rfl) ?_
 intro K hK
 refine fQ (.tmp 103) (.tmp 106) 22 22 rfl 9 1 16 _ Tryz.underlying22 fV g (i+m) 9 (d+1) (d+1) (cap - (i+m)) (some ⟨g,i+m,none⟩) _ rfl (w:=w1.drew) hr1 (.slice (some ⟨g,i+1,none⟩) (d+1) (cap - (i+1))) rfl (d+1) (xs.drop (i+1)) rfl (gN _).symm (by rw[HD.out,aV]) (Hc2.out _ hr1) (fun _=>rfl) ?_ (fun u hu=>hx1 u (bS hu)) ?_
 ·rw[length_splice _ _ _ (by rw[Hn.out,Hl.out];omega),HD.out,Hl.out];omega
 intro w2 hr2 hk2
 refine hK.out _ _ (bR ?_)
 go_wp2_with (first
  |((refine dM rfl ?_);intro K hK;(refine kD (.tmp 110) 22 rfl 9 1 16 _ Tryz.underlying22 fV rfl g (i+m+(d+1)) 9 _ _ _ _ rfl hr2 ?_ ?_ ?_ ?_);(focus (intro h0;first|rfl|(exfalso;omega)|(rw[if_neg (by omega)])));(focus (rw[HF1.out,Hl.out];omega));(focus (exact jv _ _ (by simp[Value.cells,Value.oneCell']) (by simp[Value.cells])));intro w3 zs hz hr3 hk3;refine hK _ _ ?_))
 all_goals
  go_ret
  have hown:=Row.own (k:=1) hr3 (i+m+(d+1)) (by rw[length_splice _ _ _ (by rw[HF1.out,Hl.out,hz];omega),HF1.out,Hl.out,aV]) hBg hSg (by omega) hc2
  rw[aV,lI _ _ _ _ (aG _) (by rw[HF1.out,Hl.out];omega),HF2.out] at hown
  refine⟨_,rfl,?_,((((Keep.refl (· =g) w).drew.trans hk1 (fun _ _ h=>h)).drew).trans hk2 (fun _ _ h=>h)).trans hk3 (fun _ _ h=>h)⟩
  rw[HL.out,show N=i+m+(d+1) by rw[HN.out];omega]
  first|exact hown|(rw[‹cap=i+m+(d+1)›] at hown;exact hown)
theorem BM (g cap n i:Nat) (xs:List Value) (vv:Value) (m:Nat) (news:List Value) (w:World) (S:Nat→Prop) (B:Nat) (hS:∀g,S g→g<w.heap.size) (hB:B≤w.heap.size) (h:aS w S B 3 1 (.slice (some ⟨g,0,none⟩) n cap) n xs) (hv:aS w S B 3 1 vv m news) (hone:∀u∈news,u.oneCell'=true) (hn:n≤1000000) (hm:m≤1000000) (hi:n=i+1) (hm0:0<m):
  Calls Tryz.prog 188 #[.slice (some ⟨g,0,none⟩) n cap,.int .i64 i,.int .i64 ((i:Int)+1),vv] w fun e w'=>∃v',e= .returned v'∧aS w' S B 3 1 v' (i+m) (xs.take i++news)∧Keep (· =g) w w'∧Below B w w':=by
 obtain⟨cur,hr,hl,hx,hBg,hSg,hc,hc2⟩:=h.row
 have hc3:cap≤9223372036854775807:=by simpa [maxLen] using hc2
 have hh:aS w S B 3 1 (.slice (some ⟨g,0,none⟩) i cap) i (xs.take i):=by
  have:=Row.own hr i hl hBg hSg (by omega) hc2
  rwa [show cur.take (i*1)=xs.take i by rw[←hx,dF,aV,aV,bM (by omega)]] at this
 have hsrc:Src Tryz.prog 1 151 vv m news w:=hv.dD.src Tryz.underlying151 hone
 obtain⟨vo,vc,rfl,v1,v2,v3,v4⟩:=hv.dD.form
 clear h hv hx hl hr
 subst hi
 have k1:(0:Int)≤(i:Int):=by omega
 have k2:(i:Int)≤(cap:Int):=by omega
 have k3:(0:Int)≤(i:Int)+1:=by omega
 have k4:(i:Int)+1≤(cap:Int):=by omega
 have k5:((i:Int)+1).toNat=i+1:=by omega
 have k6:¬(((i+m:Nat):Int)<((i+1:Nat):Int)):=by omega
 have k7:¬((i:Int)+(m:Int)<(i:Int)+1):=by omega
 have Hone:=af hone;clear hone
 go_enter Tryz.func188,Tryz.ntmps188
 go_wp2_with (at_builtin;(refine dK rfl (.tmp 32) (.tmp 33) 151 151 rfl S B 3 1 8 _ Tryz.underlying151 gV rfl (.slice (some ⟨g,0,none⟩) i cap) _ _ rfl hh (.slice vo m vc) _ _ rfl hsrc hS hB ?_ ?_ ?_);(focus (unfold maxLen;omega));(focus omega);intro ao1 c1 w1 hown1 hk1 hb1 hd1)
 all_goals
  go_ret
  exact⟨_,rfl,hown1,hk1.mono (fun _ _ h=>by cases h;rfl),hb1⟩
theorem BN (g cap n i:Nat) (xs:List Value) (vv:Value) (w:World) (S:Nat→Prop) (B:Nat) (h:aS w S B 3 1 (.slice (some ⟨g,0,none⟩) n cap) n xs) (hv:aS w S B 3 1 vv 0 []) (hn:n≤1000000) (hi:n=i+1):
  Calls Tryz.prog 188 #[.slice (some ⟨g,0,none⟩) n cap,.int .i64 i,.int .i64 ((i:Int)+1),vv] w fun e w'=>∃v',e= .returned v'∧aS w' S B 3 1 v' i (xs.take i)∧Keep (· =g) w w':=by
 obtain⟨cur,hr,hl,hx,hBg,hSg,hc,hc2⟩:=h.row
 have hc3:cap≤9223372036854775807:=by simpa [maxLen] using hc2
 have hsrc:Src Tryz.prog 1 151 vv 0 [] w:=hv.dD.src Tryz.underlying151 (by simp)
 obtain⟨vo,vc,rfl,v1,v2,v3,v4⟩:=hv.dD.form
 clear h hv
 subst hi
 have hx':cur.take i=xs.take i:=by rw[←hx,dF,aV,bM (by omega)]
 have hll:cur.length=cap:=by omega
 have e1:splice cur i ([]:List Value)=cur:=by simp[splice]
 have hr0:Row w g 3 (splice cur (i*1) [])→Row w g 3 cur:=by rw[aV,e1];exact id
 have k1:(0:Int)≤(i:Int):=by omega
 have k2:(i:Int)≤(cap:Int):=by omega
 have k3:(0:Int)≤(i:Int)+1:=by omega
 have k4:(i:Int)+1≤(cap:Int):=by omega
 have k5:((i:Int)+1).toNat=i+1:=by omega
 have k6:i+1 - i=1:=by omega
 have k7:¬cap=i:=by omega
 have Hl:=af hll;clear hll hl hx
 have E1:=af e1;clear e1 hr0
 go_enter Tryz.func188,Tryz.ntmps188
 go_wp2_with (first
  |(refine dM rfl ?_;intro K hK;(refine vR (.tmp 32) (.tmp 33) 151 151 rfl 3 1 8 _ Tryz.underlying151 gV g i cap _ cur rfl hr (.slice vo 0 vc) 0 [] rfl hsrc ?_ ?_ ?_);(focus omega);(focus (have:=Hl.out;simp only[bG];omega));intro w1 hr1 hk1;refine hK _ _ ?_)
  |(refine dM rfl ?_;intro K hK;(refine kD (.tmp 43) 151 rfl 3 1 8 _ Tryz.underlying151 gV rfl g i 3 1 _ (some ⟨g,i,none⟩) _ rfl hr1 (fun _=>rfl) ?_ ?_ ?_);(focus (simp only[aV,E1.out,Hl.out];omega));(focus (exact jv _ _ (by simp[Value.cells,Value.oneCell']) (by simp[Value.cells])));intro w2 zs hz hr2 hk2;refine hK _ _ ?_))
 all_goals
  go_ret
  rw[aV,E1.out] at hr2
  have hlz:(splice cur i zs).length=cap:=by rw[length_splice _ _ _ (by have:=Hl.out;omega)];exact Hl.out
  have:=Row.own (k:=1) hr2 i (by omega) hBg hSg (by omega) hc2
  rw[aV,lI _ _ _ _ (aG _) (by have:=Hl.out;omega),hx'] at this
  exact⟨_,rfl,this,hk1.trans hk2 (fun _ _ h=>h)⟩
theorem zZ (g cap n i:Nat) (xs:List Value) (vv:Value) (m:Nat) (news:List Value) (w:World) (S:Nat→Prop) (B:Nat) (h:aS w S B 3 1 (.slice (some ⟨g,0,none⟩) n cap) n xs) (hx1:∀u∈xs,u.oneCell'=true) (hv:aS w S B 3 1 vv m news) (hvg:vv.ownBlock≠some g) (hone:∀u∈news,u.oneCell'=true) (hn:n≤1000000) (hi:i+1<n) (hm:m≤1) (N:Nat) (L:List Value) (hN:N=n - 1+m) (hL:L=xs.take i++news++xs.drop (i+1)):
  Calls Tryz.prog 188 #[.slice (some ⟨g,0,none⟩) n cap,.int .i64 i,.int .i64 ((i:Int)+1),vv] w fun e w'=>∃v',e= .returned v'∧aS w' S B 3 1 v' N L∧Keep (· =g) w w':=by
 obtain⟨cur,hr,hl,hx,hBg,hSg,hc,hc2⟩:=h.row
 have hc3:cap≤9223372036854775807:=by simpa [maxLen] using hc2
 have hnl:news.length=m:=by have:=hv.1.1;omega
 have hll:cur.length=cap:=by omega
 have hx':cur.take n=xs:=by rw[←hx,aV]
 obtain⟨vo,vc,rfl,v1,v2,v3,v4⟩:=hv.dD.form
 have hvs:=hv.dD
 clear h hv hl hx
 obtain⟨d,rfl⟩:∃d,n=i+1+(d+1):=⟨n - (i+2),by omega⟩
 have HN:=af hN;clear hN
 have HL:=af hL;clear hL
 have k1:(0:Int)≤(i:Int):=by omega
 have k2:(i:Int)≤(cap:Int):=by omega
 have k3:(0:Int)≤(i:Int)+1:=by omega
 have k4:(i:Int)+1≤(cap:Int):=by omega
 have k5:((i:Int)+1).toNat=i+1:=by omega
 have Hl:=af hll;clear hll
 have Hx:=af hx';clear hx'
 have Hn:=af hnl;clear hnl
 go_enter Tryz.func188,Tryz.ntmps188
 have k6:¬cap=i+1:=by omega
 have k7:(i:Int)+1≤(i:Int)+1+((d:Int)+1):=by omega
 have k8:IntKind.i64.wrap ((i:Int)+(m:Int))=(i:Int)+(m:Int):=aR _ (by omega)
 have k9:i+1+(d+1) - (i+1)=d+1:=by omega
 have k10:IntKind.i64.wrap ((i:Int)+(m:Int)+((d:Int)+1))=(i:Int)+(m:Int)+((d:Int)+1):=aR _ (by omega)
 have k11:¬((cap:Int)<(i:Int)+(m:Int)+((d:Int)+1)):=by omega
 have k12:((i:Int)+(m:Int)+((d:Int)+1)).toNat=i+m+(d+1):=by omega
 have k13:(0:Int)≤(i:Int)+(m:Int)+((d:Int)+1):=by omega
 have k14:(i:Int)+(m:Int)+((d:Int)+1)≤cap:=by omega
 have k15:(i:Int)+(m:Int)≤(i:Int)+1:=by omega
 have k16:(i:Int)≤(i:Int)+(m:Int)+((d:Int)+1):=by omega
 have k17:¬cap=i:=by omega
 go_wp2_with fail
 refine aP (fun _=>True) (fun _=>true) [0,1,2,3,4,5,6,7,8,9,10,11,12] rfl (by kernel_rfl) trivial ?_
 repeat ((refine bO (v:= ?_) rfl rfl (fun _ _ _ h=>h) rfl (fun W hW=> ?_) ?_);rotate_left;(focus ((try dsimp only at hW);skip;first|(go_simp;first|done|with_reducible rfl)));(try simp only[Act.put,aj,au,ak]))
 refine bR ?_
 have hD:(xs.drop (i+1)).length=d+1:=by rw[aO,←Hx.out,aD,Hl.out];omega
 have hT:cur.take i=xs.take i:=by rw[←Hx.out,dF,bM (by omega)]
 obtain⟨hF1,hF2⟩:=zn cur news (xs.drop (i+1)) i (by rw[Hn.out,hD,Hl.out];omega)
 rw[Hn.out,hD,hT] at hF2
 rw[Hn.out] at hF1
 have hcs1:(Builtin.firstCells 1 m (.slice vo m vc)).run Tryz.prog w.drew= .ok news.toArray w.drew:=by
  have h1:=bE.first (P:=Tryz.prog) (w:=w.drew) (hvs.keep fun _ _ _ h=>⟨rfl,h⟩) m (aG _)
  rwa [aN (by rw[Hn.out];omega)] at h1
 have hcs2:∀W,Row W g 3 (splice cur i news)→(Builtin.firstCells 1 (d+1) (.slice (some ⟨g,i+1,none⟩) (d+1) (cap - (i+1)))).run Tryz.prog W= .ok (xs.drop (i+1)).toArray W:=by
  intro W hW
  have h1:=(Row.dD (S:=fO) (k:=1) (off:=i+1) hW (d+1) (cap - (i+1)) (by rw[length_splice _ _ _ (by rw[Hn.out,Hl.out];omega),Hl.out];omega) id (by omega) (by unfold maxLen;omega)).first (P:=Tryz.prog) (d+1) (aG _)
  rw[dF,gN,pJ _ _ _ _ (by rw[Hn.out];omega) (by rw[Hl.out];omega),aV] at h1
  rwa [show (cur.drop (i+1)).take (d+1)=xs.drop (i+1) by rw[←Hx.out,gQ];congr 1;omega] at h1
 have HD:=af hD;clear hD
 have HT:=af hT;clear hT
 have HF1:=af hF1;clear hF1
 have HF2:=af hF2;clear hF2
 have Hc1:=af hcs1;clear hcs1
 have Hc2:=af hcs2;clear hcs2
 have k18:¬cap=i+m:=by omega
 have k19:i+m+(d+1) - (i+m)=d+1:=by omega
 have k20:(0:Int)≤(i:Int)+(m:Int):=by omega
 have k21:(i:Int)+(m:Int)≤(i:Int)+(m:Int)+((d:Int)+1):=by omega
 have k22:((i:Int)+(m:Int)).toNat=i+m:=by omega
 have k23:(i:Int)+(m:Int)+((d:Int)+1)≤(i:Int)+1+((d:Int)+1):=by omega
 go_wp2_with (first
  |((refine dM rfl ?_);intro K hK;(refine fQ (.tmp 95) (.tmp 96) 151 151 rfl 3 1 8 _ Tryz.underlying151 gV g i 3 m (i+m+(d+1) - i) (cap - i) (some ⟨g,i,none⟩) cur rfl hr (.slice vo m vc) rfl m news rfl ?_ ?_ Hc1.out (fun _=>rfl) ?_ hone ?_);(focus (exact(bM (by omega)).symm));(focus (rw[Hn.out,aV]));(focus (rw[Hn.out,Hl.out];omega));intro w1 hr1 hk1;refine hK _ _ (Stop.of ?_)))
 refine Stop.on ?_
 go_wp2_with fail
 refine aP (fun _=>True) (fun i=> !([9].contains i)) [0,1,2,3,4,5,6,7,8,9] rfl (by kernel_rfl) trivial ?_
 repeat ((refine bO (v:= ?_) rfl rfl (fun _ _ _ h=>h) rfl (fun W hW=> ?_) ?_);rotate_left;(focus ((try dsimp only at hW);skip;first|(go_simp;first|done|with_reducible rfl)));(try simp only[Act.put,aj,au,ak]))
 refine ja rfl rfl rfl (by kernel_rfl) ?_
 intro K hK
 refine fQ (.tmp 103) (.tmp 106) 151 151 rfl 3 1 8 _ Tryz.underlying151 gV g (i+m) 3 (d+1) (d+1) (cap - (i+m)) (some ⟨g,i+m,none⟩) _ rfl (w:=w1.drew) hr1 (.slice (some ⟨g,i+1,none⟩) (d+1) (cap - (i+1))) rfl (d+1) (xs.drop (i+1)) rfl (gN _).symm (by rw[HD.out,aV]) (Hc2.out _ hr1) (fun _=>rfl) ?_ (fun u hu=>hx1 u (bS hu)) ?_
 ·rw[length_splice _ _ _ (by rw[Hn.out,Hl.out];omega),HD.out,Hl.out];omega
 intro w2 hr2 hk2
 refine hK.out _ _ (bR ?_)
 go_wp2_with (first
  |((refine dM rfl ?_);intro K hK;(refine kD (.tmp 110) 151 rfl 3 1 8 _ Tryz.underlying151 gV rfl g (i+m+(d+1)) 3 _ _ _ _ rfl hr2 ?_ ?_ ?_ ?_);(focus (intro h0;first|rfl|(exfalso;omega)|(rw[if_neg (by omega)])));(focus (rw[HF1.out,Hl.out];omega));(focus (exact jv _ _ (by simp[Value.cells,Value.oneCell']) (by simp[Value.cells])));intro w3 zs hz hr3 hk3;refine hK _ _ ?_))
 all_goals
  go_ret
  have hown:=Row.own (k:=1) hr3 (i+m+(d+1)) (by rw[length_splice _ _ _ (by rw[HF1.out,Hl.out,hz];omega),HF1.out,Hl.out,aV]) hBg hSg (by omega) hc2
  rw[aV,lI _ _ _ _ (aG _) (by rw[HF1.out,Hl.out];omega),HF2.out] at hown
  refine⟨_,rfl,?_,((((Keep.refl (· =g) w).drew.trans hk1 (fun _ _ h=>h)).drew).trans hk2 (fun _ _ h=>h)).trans hk3 (fun _ _ h=>h)⟩
  rw[HL.out,show N=i+m+(d+1) by rw[HN.out];omega]
  first|exact hown|(rw[‹cap=i+m+(d+1)›] at hown;exact hown)
theorem zV (g cap n i:Nat) (xs:List Value) (vb vc m:Nat) (news:List Value) (w:World) (S:Nat→Prop) (B:Nat) (h:aS w S B 9 1 (.slice (some ⟨g,0,none⟩) n cap) n xs) (hx1:∀u∈xs,u.oneCell'=true) (hv:aS w S B 9 1 (.slice (some ⟨vb,0,none⟩) m vc) m news) (hvg:vb≠g) (hone:∀u∈news,u.oneCell'=true) (hn:n≤1000000) (hmm:m≤1000000) (hi:i+1<n) (hm:2≤m) (hroom:n - 1+m≤cap) (N:Nat) (L:List Value) (hN:N=n - 1+m) (hL:L=xs.take i++news++xs.drop (i+1)):
  Calls Tryz.prog 187 #[.slice (some ⟨g,0,none⟩) n cap,.int .i64 i,.int .i64 ((i:Int)+1),.slice (some ⟨vb,0,none⟩) m vc] w fun e w'=>∃v',e= .returned v'∧aS w' S B 9 1 v' N L∧Keep (· =g) w w':=by
 obtain⟨cur,hr,hl,hx,hBg,hSg,hc,hc2⟩:=h.row
 obtain⟨curv,hrv,hlv,_,_,_,hcv,hcv2⟩:=hv.row
 have hc3:cap≤9223372036854775807:=by simpa [maxLen] using hc2
 have hcv3:vc≤9223372036854775807:=by simpa [maxLen] using hcv2
 have hnl:news.length=m:=by have:=hv.1.1;omega
 have hll:cur.length=cap:=by omega
 have hllv:curv.length=vc:=by omega
 have hx':cur.take n=xs:=by rw[←hx,aV]
 have hvs:=hv.dD
 clear h hv hl hx hlv
 obtain⟨d,rfl⟩:∃d,n=i+1+(d+1):=⟨n - (i+2),by omega⟩
 have hov:(callFunc 221 #[.slice (some ⟨g,i+m,none⟩) (d+1) (cap - (i+m)),.slice (some ⟨vb,0,none⟩) m vc]).run Tryz.prog w.drew= .ok (.value (.bool false)) w.drew:=by
  rw[qx Tryz.func221 (by kernel_rfl) (by kernel_rfl) (by kernel_rfl) (e:=Extern.SlicesOverlaps.overlaps #[22,22] #[4]) (by kernel_rfl)]
  rw[Lib.run_overlaps_apart w.drew 22 4 9 Tryz.underlying22 1 (fun w=>by kernel_rfl) ⟨g,i+m,none⟩ ⟨vb,0,none⟩ (d+1) (cap - (i+m)) m vc (Ne.symm hvg) 9 9 cap vc
   (by have hr':w.drew.heap[g]? =_:=hr;simp[World.shape?,hr',hll]) (by have hr':w.drew.heap[vb]? =_:=hrv;simp[World.shape?,hr',hllv]) (by omega) (hr.frozen _) (hr.frozen _)]
  rfl
 have HN:=af hN;clear hN
 have HL:=af hL;clear hL
 have k1:(0:Int)≤(i:Int):=by omega
 have k2:(i:Int)≤(cap:Int):=by omega
 have k3:(0:Int)≤(i:Int)+1:=by omega
 have k4:(i:Int)+1≤(cap:Int):=by omega
 have k5:((i:Int)+1).toNat=i+1:=by omega
 have Hl:=af hll;clear hll
 have Hx:=af hx';clear hx'
 have Hn:=af hnl;clear hnl
 have k6:¬cap=i+1:=by omega
 have k7:(i:Int)+1≤(i:Int)+1+((d:Int)+1):=by omega
 have k8:IntKind.i64.wrap ((i:Int)+(m:Int))=(i:Int)+(m:Int):=aR _ (by omega)
 have k9:i+1+(d+1) - (i+1)=d+1:=by omega
 have k10:IntKind.i64.wrap ((i:Int)+(m:Int)+((d:Int)+1))=(i:Int)+(m:Int)+((d:Int)+1):=aR _ (by omega)
 have k11:¬((cap:Int)<(i:Int)+(m:Int)+((d:Int)+1)):=by omega
 have k12:((i:Int)+(m:Int)+((d:Int)+1)).toNat=i+m+(d+1):=by omega
 have k13:(0:Int)≤(i:Int)+(m:Int)+((d:Int)+1):=by omega
 have k14:(i:Int)+(m:Int)+((d:Int)+1)≤cap:=by omega
 have k15:¬((i:Int)+(m:Int)≤(i:Int)+1):=by omega
 have k16:(i:Int)≤(i:Int)+(m:Int)+((d:Int)+1):=by omega
 have k17:¬cap=i:=by omega
 have hD:(xs.drop (i+1)).length=d+1:=by rw[aO,←Hx.out,aD,Hl.out];omega
 have hT:cur.take i=xs.take i:=by rw[←Hx.out,dF,bM (by omega)]
 obtain⟨hF1,hF2⟩:=Jo cur news (xs.drop (i+1)) i (by rw[Hn.out,hD,Hl.out];omega)
 rw[Hn.out,hD,hT] at hF2
 rw[Hn.out] at hF1
 have hcs1:∀W,Keep (· =g) w W→(Builtin.firstCells 1 m (.slice (some ⟨vb,0,none⟩) m vc)).run Tryz.prog W= .ok news.toArray W:=by
  intro W hW
  have h1:=bE.first (P:=Tryz.prog) (w:=W) (hvs.keep fun g' hg hl hs=>⟨hW.block g' hl (fun e=>hvg (by cases hg;exact e)),hs⟩) m (aG _)
  rwa [aN (by rw[Hn.out];omega)] at h1
 have hcs2:(Builtin.firstCells 1 (d+1) (.slice (some ⟨g,i+1,none⟩) (d+1) (cap - (i+1)))).run Tryz.prog w.drew.drew= .ok (xs.drop (i+1)).toArray w.drew.drew:=by
  have h1:=(Row.dD (w:=w.drew.drew) (S:=fO) (k:=1) (off:=i+1) hr (d+1) (cap - (i+1)) (by rw[Hl.out];omega) id (by omega) (by unfold maxLen;omega)).first (P:=Tryz.prog) (d+1) (aG _)
  rw[dF,gN,aV] at h1
  rwa [show (cur.drop (i+1)).take (d+1)=xs.drop (i+1) by rw[←Hx.out,gQ];congr 1;omega] at h1
 have HD:=af hD;clear hD
 have HT:=af hT;clear hT
 have HF1:=af hF1;clear hF1
 have HF2:=af hF2;clear hF2
 have Hc1:=af hcs1;clear hcs1
 have Hc2:=af hcs2;clear hcs2
 have k18:¬cap=i+m:=by omega
 have k19:i+m+(d+1) - (i+m)=d+1:=by omega
 have k20:(0:Int)≤(i:Int)+(m:Int):=by omega
 have k21:(i:Int)+(m:Int)≤(i:Int)+(m:Int)+((d:Int)+1):=by omega
 have k22:((i:Int)+(m:Int)).toNat=i+m:=by omega
 go_enter Tryz.func187,Tryz.ntmps187
 go_wp2_with fail
 refine aP (fun _=>True) (fun _=>true) [0,1,2,3,4,5,6,7,8,9,10,11,12] rfl (by kernel_rfl) trivial ?_
 repeat ((refine bO (v:= ?_) rfl rfl (fun _ _ _ h=>h) rfl (fun W hW=> ?_) ?_);rotate_left;(focus ((try dsimp only at hW);skip;first|(go_simp;first|done|with_reducible rfl)));(try simp only[Act.put,aj,au,ak]))
 refine bR ?_
 go_wp2_with fail
 refine aP (fun _=>True) (fun i=> !([9].contains i)) [0,1,2,3,4,5,6,7,8,9] rfl (by kernel_rfl) trivial ?_
 repeat ((refine bO (v:= ?_) rfl rfl (fun _ _ _ h=>h) rfl (fun W hW=> ?_) ?_);rotate_left;(focus ((try dsimp only at hW);skip;first|(go_simp;first|done|with_reducible rfl)));(try simp only[Act.put,aj,au,ak]))
 refine ja rfl rfl rfl (by kernel_rfl) ?_
 intro K hK
 refine fQ (.tmp 126) (.tmp 129) 22 22 rfl 9 1 16 _ Tryz.underlying22 fV g (i+m) 9 (d+1) (d+1) (cap - (i+m)) (some ⟨g,i+m,none⟩) _ rfl (w:=w.drew.drew) hr (.slice (some ⟨g,i+1,none⟩) (d+1) (cap - (i+1))) rfl (d+1) (xs.drop (i+1)) rfl (gN _).symm (by rw[HD.out,aV]) Hc2.out (fun _=>rfl) ?_ (fun u hu=>hx1 u (bS hu)) ?_
 ·rw[HD.out,Hl.out];omega
 intro w2 hr2 hk2
 refine hK.out _ _ (bR ?_)
 have hkk:Keep (· =g) w w2:=(Keep.refl (· =g) w).drew.drew.trans hk2 (fun _ _ h=>h)
 go_wp2_with (first
  |((refine dM rfl ?_);intro K hK;(refine fQ (.tmp 133) (.tmp 134) 22 22 rfl 9 1 16 _ Tryz.underlying22 fV g i 9 m (i+m+(d+1) - i) (cap - i) (some ⟨g,i,none⟩) _ rfl hr2 (.slice (some ⟨vb,0,none⟩) m vc) rfl m news rfl ?_ ?_ (Hc1.out _ hkk) (fun _=>rfl) ?_ hone ?_);(focus (exact(bM (by omega)).symm));(focus (rw[Hn.out,aV]));(focus (rw[length_splice _ _ _ (by rw[HD.out,Hl.out];omega),Hn.out,Hl.out];omega));intro w3 hr3 hk3;refine hK _ _ ?_))
 go_ret
 have hown:=Row.own (k:=1) hr3 (i+m+(d+1)) (by rw[HF1.out,Hl.out,aV]) hBg hSg (by omega) hc2
 rw[aV,HF2.out] at hown
 refine⟨_,rfl,?_,hkk.trans hk3 (fun _ _ h=>h)⟩
 rw[HL.out,show N=i+m+(d+1) by rw[HN.out];omega]
 exact hown
theorem zY (g cap n i:Nat) (xs:List Value) (vb vc m:Nat) (news:List Value) (w:World) (S:Nat→Prop) (B:Nat) (h:aS w S B 3 1 (.slice (some ⟨g,0,none⟩) n cap) n xs) (hx1:∀u∈xs,u.oneCell'=true) (hv:aS w S B 3 1 (.slice (some ⟨vb,0,none⟩) m vc) m news) (hvg:vb≠g) (hone:∀u∈news,u.oneCell'=true) (hn:n≤1000000) (hmm:m≤1000000) (hi:i+1<n) (hm:2≤m) (hroom:n - 1+m≤cap) (N:Nat) (L:List Value) (hN:N=n - 1+m) (hL:L=xs.take i++news++xs.drop (i+1)):
  Calls Tryz.prog 188 #[.slice (some ⟨g,0,none⟩) n cap,.int .i64 i,.int .i64 ((i:Int)+1),.slice (some ⟨vb,0,none⟩) m vc] w fun e w'=>∃v',e= .returned v'∧aS w' S B 3 1 v' N L∧Keep (· =g) w w':=by
 obtain⟨cur,hr,hl,hx,hBg,hSg,hc,hc2⟩:=h.row
 obtain⟨curv,hrv,hlv,_,_,_,hcv,hcv2⟩:=hv.row
 have hc3:cap≤9223372036854775807:=by simpa [maxLen] using hc2
 have hcv3:vc≤9223372036854775807:=by simpa [maxLen] using hcv2
 have hnl:news.length=m:=by have:=hv.1.1;omega
 have hll:cur.length=cap:=by omega
 have hllv:curv.length=vc:=by omega
 have hx':cur.take n=xs:=by rw[←hx,aV]
 have hvs:=hv.dD
 clear h hv hl hx hlv
 obtain⟨d,rfl⟩:∃d,n=i+1+(d+1):=⟨n - (i+2),by omega⟩
 have hov:(callFunc 225 #[.slice (some ⟨g,i+m,none⟩) (d+1) (cap - (i+m)),.slice (some ⟨vb,0,none⟩) m vc]).run Tryz.prog w.drew= .ok (.value (.bool false)) w.drew:=by
  rw[qx Tryz.func225 (by kernel_rfl) (by kernel_rfl) (by kernel_rfl) (e:=Extern.SlicesOverlaps.overlaps #[151,151] #[4]) (by kernel_rfl)]
  rw[Lib.run_overlaps_apart w.drew 151 4 3 Tryz.underlying151 1 (fun w=>by kernel_rfl) ⟨g,i+m,none⟩ ⟨vb,0,none⟩ (d+1) (cap - (i+m)) m vc (Ne.symm hvg) 3 3 cap vc
   (by have hr':w.drew.heap[g]? =_:=hr;simp[World.shape?,hr',hll]) (by have hr':w.drew.heap[vb]? =_:=hrv;simp[World.shape?,hr',hllv]) (by omega) (hr.frozen _) (hr.frozen _)]
  rfl
 have HN:=af hN;clear hN
 have HL:=af hL;clear hL
 have k1:(0:Int)≤(i:Int):=by omega
 have k2:(i:Int)≤(cap:Int):=by omega
 have k3:(0:Int)≤(i:Int)+1:=by omega
 have k4:(i:Int)+1≤(cap:Int):=by omega
 have k5:((i:Int)+1).toNat=i+1:=by omega
 have Hl:=af hll;clear hll
 have Hx:=af hx';clear hx'
 have Hn:=af hnl;clear hnl
 have k6:¬cap=i+1:=by omega
 have k7:(i:Int)+1≤(i:Int)+1+((d:Int)+1):=by omega
 have k8:IntKind.i64.wrap ((i:Int)+(m:Int))=(i:Int)+(m:Int):=aR _ (by omega)
 have k9:i+1+(d+1) - (i+1)=d+1:=by omega
 have k10:IntKind.i64.wrap ((i:Int)+(m:Int)+((d:Int)+1))=(i:Int)+(m:Int)+((d:Int)+1):=aR _ (by omega)
 have k11:¬((cap:Int)<(i:Int)+(m:Int)+((d:Int)+1)):=by omega
 have k12:((i:Int)+(m:Int)+((d:Int)+1)).toNat=i+m+(d+1):=by omega
 have k13:(0:Int)≤(i:Int)+(m:Int)+((d:Int)+1):=by omega
 have k14:(i:Int)+(m:Int)+((d:Int)+1)≤cap:=by omega
 have k15:¬((i:Int)+(m:Int)≤(i:Int)+1):=by omega
 have k16:(i:Int)≤(i:Int)+(m:Int)+((d:Int)+1):=by omega
 have k17:¬cap=i:=by omega
 have hD:(xs.drop (i+1)).length=d+1:=by rw[aO,←Hx.out,aD,Hl.out];omega
 have hT:cur.take i=xs.take i:=by rw[←Hx.out,dF,bM (by omega)]
 obtain⟨hF1,hF2⟩:=Jo cur news (xs.drop (i+1)) i (by rw[Hn.out,hD,Hl.out];omega)
 rw[Hn.out,hD,hT] at hF2
 rw[Hn.out] at hF1
 have hcs1:∀W,Keep (· =g) w W→(Builtin.firstCells 1 m (.slice (some ⟨vb,0,none⟩) m vc)).run Tryz.prog W= .ok news.toArray W:=by
  intro W hW
  have h1:=bE.first (P:=Tryz.prog) (w:=W) (hvs.keep fun g' hg hl hs=>⟨hW.block g' hl (fun e=>hvg (by cases hg;exact e)),hs⟩) m (aG _)
  rwa [aN (by rw[Hn.out];omega)] at h1
 have hcs2:(Builtin.firstCells 1 (d+1) (.slice (some ⟨g,i+1,none⟩) (d+1) (cap - (i+1)))).run Tryz.prog w.drew.drew= .ok (xs.drop (i+1)).toArray w.drew.drew:=by
  have h1:=(Row.dD (w:=w.drew.drew) (S:=fO) (k:=1) (off:=i+1) hr (d+1) (cap - (i+1)) (by rw[Hl.out];omega) id (by omega) (by unfold maxLen;omega)).first (P:=Tryz.prog) (d+1) (aG _)
  rw[dF,gN,aV] at h1
  rwa [show (cur.drop (i+1)).take (d+1)=xs.drop (i+1) by rw[←Hx.out,gQ];congr 1;omega] at h1
 have HD:=af hD;clear hD
 have HT:=af hT;clear hT
 have HF1:=af hF1;clear hF1
 have HF2:=af hF2;clear hF2
 have Hc1:=af hcs1;clear hcs1
 have Hc2:=af hcs2;clear hcs2
 have k18:¬cap=i+m:=by omega
 have k19:i+m+(d+1) - (i+m)=d+1:=by omega
 have k20:(0:Int)≤(i:Int)+(m:Int):=by omega
 have k21:(i:Int)+(m:Int)≤(i:Int)+(m:Int)+((d:Int)+1):=by omega
 have k22:((i:Int)+(m:Int)).toNat=i+m:=by omega
 go_enter Tryz.func188,Tryz.ntmps188
 go_wp2_with fail
 refine aP (fun _=>True) (fun _=>true) [0,1,2,3,4,5,6,7,8,9,10,11,12] rfl (by kernel_rfl) trivial ?_
 repeat ((refine bO (v:= ?_) rfl rfl (fun _ _ _ h=>h) rfl (fun W hW=> ?_) ?_);rotate_left;(focus ((try dsimp only at hW);skip;first|(go_simp;first|done|with_reducible rfl)));(try simp only[Act.put,aj,au,ak]))
 refine bR ?_
 go_wp2_with fail
 refine aP (fun _=>True) (fun i=> !([9].contains i)) [0,1,2,3,4,5,6,7,8,9] rfl (by kernel_rfl) trivial ?_
 repeat ((refine bO (v:= ?_) rfl rfl (fun _ _ _ h=>h) rfl (fun W hW=> ?_) ?_);rotate_left;(focus ((try dsimp only at hW);skip;first|(go_simp;first|done|with_reducible rfl)));(try simp only[Act.put,aj,au,ak]))
 refine ja rfl rfl rfl (by kernel_rfl) ?_
 intro K hK
 refine fQ (.tmp 126) (.tmp 129) 151 151 rfl 3 1 8 _ Tryz.underlying151 gV g (i+m) 3 (d+1) (d+1) (cap - (i+m)) (some ⟨g,i+m,none⟩) _ rfl (w:=w.drew.drew) hr (.slice (some ⟨g,i+1,none⟩) (d+1) (cap - (i+1))) rfl (d+1) (xs.drop (i+1)) rfl (gN _).symm (by rw[HD.out,aV]) Hc2.out (fun _=>rfl) ?_ (fun u hu=>hx1 u (bS hu)) ?_
 ·rw[HD.out,Hl.out];omega
 intro w2 hr2 hk2
 refine hK.out _ _ (bR ?_)
 have hkk:Keep (· =g) w w2:=(Keep.refl (· =g) w).drew.drew.trans hk2 (fun _ _ h=>h)
 go_wp2_with (first
  |((refine dM rfl ?_);intro K hK;(refine fQ (.tmp 133) (.tmp 134) 151 151 rfl 3 1 8 _ Tryz.underlying151 gV g i 3 m (i+m+(d+1) - i) (cap - i) (some ⟨g,i,none⟩) _ rfl hr2 (.slice (some ⟨vb,0,none⟩) m vc) rfl m news rfl ?_ ?_ (Hc1.out _ hkk) (fun _=>rfl) ?_ hone ?_);(focus (exact(bM (by omega)).symm));(focus (rw[Hn.out,aV]));(focus (rw[length_splice _ _ _ (by rw[HD.out,Hl.out];omega),Hn.out,Hl.out];omega));intro w3 hr3 hk3;refine hK _ _ ?_))
 go_ret
 have hown:=Row.own (k:=1) hr3 (i+m+(d+1)) (by rw[HF1.out,Hl.out,aV]) hBg hSg (by omega) hc2
 rw[aV,HF2.out] at hown
 refine⟨_,rfl,?_,hkk.trans hk3 (fun _ _ h=>h)⟩
 rw[HL.out,show N=i+m+(d+1) by rw[HN.out];omega]
 exact hown
theorem zX (g cap n i:Nat) (xs:List Value) (vb vc m:Nat) (news:List Value) (w:World) (S:Nat→Prop) (B:Nat) (hS:∀g,S g→g<w.heap.size) (hB:B≤w.heap.size) (h:aS w S B 9 1 (.slice (some ⟨g,0,none⟩) n cap) n xs) (hx1:∀u∈xs,u.oneCell'=true) (hv:aS w S B 9 1 (.slice (some ⟨vb,0,none⟩) m vc) m news) (hone:∀u∈news,u.oneCell'=true) (hn:n≤1000000) (hmm:m≤1000000) (hi:i+1<n) (hroom:cap<n - 1+m) (N:Nat) (L:List Value) (hN:N=n - 1+m) (hL:L=xs.take i++news++xs.drop (i+1)):
  Calls Tryz.prog 187 #[.slice (some ⟨g,0,none⟩) n cap,.int .i64 i,.int .i64 ((i:Int)+1),.slice (some ⟨vb,0,none⟩) m vc] w fun e w'=>∃v',e= .returned v'∧aS w' S B 9 1 v' N L∧Keep fO w w':=by
 obtain⟨cur,hr,hl,hx,hBg,hSg,hc,hc2⟩:=h.row
 have hc3:cap≤9223372036854775807:=by simpa [maxLen] using hc2
 have hnl:news.length=m:=by have:=hv.1.1;omega
 have hll:cur.length=cap:=by omega
 have hx':cur.take n=xs:=by rw[←hx,aV]
 have hvs:=hv.dD
 obtain⟨vo,vc',e0,v1,v2,_,_⟩:=hv.dD.form
 cases e0
 clear h hv hl hx
 obtain⟨d,rfl⟩:∃d,n=i+1+(d+1):=⟨n - (i+2),by omega⟩
 have HN:=af hN;clear hN
 have HL:=af hL;clear hL
 have k1:(0:Int)≤(i:Int):=by omega
 have k2:(i:Int)≤(cap:Int):=by omega
 have k3:(0:Int)≤(i:Int)+1:=by omega
 have k4:(i:Int)+1≤(cap:Int):=by omega
 have k5:((i:Int)+1).toNat=i+1:=by omega
 have Hl:=af hll;clear hll
 have Hx:=af hx';clear hx'
 have Hn:=af hnl;clear hnl
 have k6:¬cap=i+1:=by omega
 have k7:(i:Int)+1≤(i:Int)+1+((d:Int)+1):=by omega
 have k8:IntKind.i64.wrap ((i:Int)+(m:Int))=(i:Int)+(m:Int):=aR _ (by omega)
 have k9:i+1+(d+1) - (i+1)=d+1:=by omega
 have k10:IntKind.i64.wrap ((i:Int)+(m:Int)+((d:Int)+1))=(i:Int)+(m:Int)+((d:Int)+1):=aR _ (by omega)
 have k11:(cap:Int)<(i:Int)+(m:Int)+((d:Int)+1):=by omega
 have k17:¬cap=i:=by omega
 have k18:(i:Int)+(m:Int)+((d:Int)+1) - (i:Int)=((m+(d+1):Nat):Int):=by omega
 have k19:i+(m+(d+1))=i+m+(d+1):=by omega
 have k20:(0:Int)≤(i:Int)+(m:Int):=by omega
 have k22:((i:Int)+(m:Int)).toNat=i+m:=by omega
 have hD:(xs.drop (i+1)).length=d+1:=by rw[aO,←Hx.out,aD,Hl.out];omega
 have hT:cur.take i=xs.take i:=by rw[←Hx.out,dF,bM (by omega)]
 have hgl:g<w.heap.size:=hr.lt
 have HD:=af hD;clear hD
 have HT:=af hT;clear hT
 go_enter Tryz.func187,Tryz.ntmps187
 go_wp2_with fail
 refine aP (fun _=>True) (fun _=>true) [0,1,2,3,4,5,6,7,8,9,10,11,12] rfl (by kernel_rfl) trivial ?_
 repeat ((refine bO (v:= ?_) rfl rfl (fun _ _ _ h=>h) rfl (fun W hW=> ?_) ?_);rotate_left;(focus ((try dsimp only at hW);skip;first|(go_simp;first|done|with_reducible rfl)));(try simp only[Act.put,aj,au,ak]))
 refine bR ?_
 go_wp2_with (first|(at_builtin;(refine dM rfl ?_);intro K hK;go_must ((refine qU (w:=w.drew) (.tmp 63) (.tmp 66) 22 3 rfl 9 1 16 _ Tryz.underlying22 Tryz.underlying3 fV rfl (by omega) g i cap (m+(d+1)) cur rfl ?_ hr ?_ ?_ ?_ ?_ ?_ ?_);(focus (first|rfl|(show Value.int _ _=_;congr 1;first|done|omega)));(focus (rw[Hl.out];omega));(focus omega);(focus omega);(focus (unfold maxLen;omega));(focus omega);intro c1 w1 rest hr1 hl1 hc1 hc1' hk1;refine hK _ _ (Stop.of ?_))))
 have hr1:Row w1 w.heap.size 9 (cur.take i++rest):=by rw[aV] at hr1;exact hr1
 have hl1:(cur.take i++rest).length=c1:=by rw[aV,aV] at hl1;exact hl1
 have hk1:Keep fO w w1:=(Keep.refl fO w).drew.trans hk1 (fun _ _ h=>h)
 have k12:¬c1=i:=by omega
 have k14:¬c1=i+m:=by omega
 have k15:(i:Int)≤(c1:Int):=by omega
 have k16:(i:Int)+(m:Int)≤(i:Int)+(m:Int)+((d:Int)+1):=by omega
 have hc1'':c1≤9223372036854775807:=by simpa [maxLen] using hc1'
 have hci:(cur.take i).length=i:=by rw[aD,Hl.out];omega
 obtain⟨hF1,hF2⟩:=zn (cur.take i++rest) news (xs.drop (i+1)) i (by rw[Hn.out,HD.out,hl1];omega)
 rw[Hn.out,HD.out,List.take_left' hci] at hF2
 rw[Hn.out] at hF1
 have hcs1:(Builtin.firstCells 1 m (.slice (some ⟨vb,0,none⟩) m vc)).run Tryz.prog w1= .ok news.toArray w1:=by
  have h1:=bE.first (P:=Tryz.prog) (w:=w1) (hvs.keep fun g' hg hl hs=>⟨hk1.block g' hl id,hs⟩) m (aG _)
  rwa [aN (by rw[Hn.out];omega)] at h1
 have Hl1:=af hl1;clear hl1
 have HF1:=af hF1;clear hF1
 have HF2:=af hF2;clear hF2
 have Hc1:=af hcs1;clear hcs1
 have Hci:=af hci;clear hci
 refine Stop.on ?_
 go_wp2_with (first|((refine dM rfl ?_);intro K hK;(refine fQ (.tmp 70) (.tmp 71) 22 22 rfl 9 1 16 _ Tryz.underlying22 fV w.heap.size i 9 m (i+m+(d+1) - i) (c1 - i) (some ⟨w.heap.size,i,none⟩) _ ?_ hr1 (.slice (some ⟨vb,0,none⟩) m vc) rfl m news rfl ?_ ?_ Hc1.out (fun _=>rfl) ?_ hone ?_);go_must ((focus (first|rfl|(show Value.slice _ _ _=_;congr 1;omega)));(focus (exact(bM (by omega)).symm));(focus (rw[Hn.out,aV]));(focus (rw[Hl1.out,Hn.out];omega));intro w2 hr2 hk2;refine hK _ _ (Stop.of ?_))))
 have hkk:Keep fO w w2:=hk1.trans hk2 (fun _ hl e=>absurd hl (by omega))
 have hg2:Row w2 g 9 cur:=hr.keep hkk id
 have hcs:(Builtin.firstCells 1 (d+1) (.slice (some ⟨g,i+1,none⟩) (d+1) (cap - (i+1)))).run Tryz.prog w2.drew= .ok (xs.drop (i+1)).toArray w2.drew:=by
  have h1:=(Row.dD (w:=w2.drew) (S:=fO) (k:=1) (off:=i+1) hg2 (d+1) (cap - (i+1)) (by rw[Hl.out];omega) id (by omega) (by unfold maxLen;omega)).first (P:=Tryz.prog) (d+1) (aG _)
  rw[dF,gN,aV] at h1
  rwa [show (cur.drop (i+1)).take (d+1)=xs.drop (i+1) by rw[←Hx.out,gQ];congr 1;omega] at h1
 have Hcs:=af hcs;clear hcs
 have k23:i+m+(d+1) - (i+m)=d+1:=by omega
 refine Stop.on ?_
 go_wp2_with fail
 refine aP (fun _=>True) (fun i=> !([9].contains i)) [0,1,2,3,4,5,6,7,8,9] rfl (by kernel_rfl) trivial ?_
 repeat ((refine bO (v:= ?_) rfl rfl (fun _ _ _ h=>h) rfl (fun W hW=> ?_) ?_);rotate_left;(focus ((try dsimp only at hW);skip;first|(go_simp;first|done|with_reducible rfl)));(try simp only[Act.put,aj,au,ak]))
 refine ja rfl rfl rfl (by kernel_rfl) ?_
 intro K hK
 refine fQ (.tmp 78) (.tmp 81) 22 22 rfl 9 1 16 _ Tryz.underlying22 fV w.heap.size (i+m) 9 (d+1) (d+1) (c1 - (i+m)) (some ⟨w.heap.size,i+m,none⟩) _ rfl (w:=w2.drew) hr2 (.slice (some ⟨g,i+1,none⟩) (d+1) (cap - (i+1))) rfl (d+1) (xs.drop (i+1)) rfl (gN _).symm (by rw[HD.out,aV]) Hcs.out (fun _=>rfl) ?_ (fun u hu=>hx1 u (bS hu)) ?_
 ·rw[length_splice _ _ _ (by rw[Hn.out,Hl1.out];omega),HD.out,Hl1.out];omega
 intro w3 hr3 hk3
 refine hK.out _ _ (bR ?_)
 go_wp2
 go_ret
 have hown:=Row.own (S:=S) (B:=B) (k:=1) hr3 (i+m+(d+1)) (by rw[HF1.out,Hl1.out,aV]) hB (fun hs=>absurd (hS _ hs) (dI _)) (by omega) hc1'
 rw[aV,HF2.out] at hown
 refine⟨_,rfl,?_,hkk.drew.trans hk3 (fun _ hl e=>absurd hl (by omega))⟩
 rw[HL.out,show N=i+m+(d+1) by rw[HN.out];omega,←HT.out]
 exact hown
theorem H8 (v:Value) (n i:Nat) (xs:List Value) (vv:Value) (m:Nat) (news:List Value) (w:World) (S:Nat→Prop) (B:Nat) (hS:∀g,S g→g<w.heap.size) (hB:B≤w.heap.size) (h:aS w S B 9 1 v n xs) (hx1:∀u∈xs,u.oneCell'=true) (hv:aS w S B 9 1 vv m news) (hvg:∀g,v.ownBlock=some g→vv.ownBlock≠some g) (hone:∀u∈news,u.oneCell'=true) (hn:n≤1000000) (hmm:m≤1000000) (hi:i<n):
  Calls Tryz.prog 187 #[v,.int .i64 i,.int .i64 ((i:Int)+1),vv] w fun e w'=>∃v',e= .returned v'∧aS w' S B 9 1 v' (n - 1+m) (xs.take i++news++xs.drop (i+1))∧Keep (fun g=>v.ownBlock=some g) w w':=by
 have hxl:=h.1.1
 have hnl:=hv.1.1
 rw[aV] at hxl hnl
 rcases h.1.2 with ⟨rfl,h0⟩|⟨g,cap,cur,rfl,_⟩
 ·omega
 have hvg':=hvg g rfl
 by_cases hin:n=i+1
 ·have e1:xs.drop (i+1)=[]:=dQ (by omega)
  have e2:n - 1+m=i+m:=by omega
  rw[e1,e2,dG]
  by_cases hm0:m=0
  ·subst hm0
   obtain rfl:news=[]:=aU hnl
   refine(BK g cap n i xs vv w S B h hv hn hin).mono ?_
   rintro e w' ⟨v',rfl,h1,h2⟩
   exact⟨v',rfl,by rw[dG];exact h1,h2.mono (fun k _ hk=>by rw[hk];rfl)⟩
  ·refine(BJ g cap n i xs vv m news w S B hS hB h hv hone hn hmm hin (by omega)).mono ?_
   rintro e w' ⟨v',rfl,h1,h2,_⟩
   exact⟨v',rfl,h1,h2.mono (fun k _ hk=>by rw[hk];rfl)⟩
 ·by_cases hm1:m≤1
  ·refine(zW g cap n i xs vv m news w S B h hx1 hv hvg' hone hn (by omega) hm1 _ _ rfl rfl).mono ?_
   rintro e w' ⟨v',rfl,h1,h2⟩
   exact⟨v',rfl,h1,h2.mono (fun k _ hk=>by rw[hk];rfl)⟩
  ·rcases hv.1.2 with ⟨rfl,h0⟩|⟨vb,vc,curv,rfl,_⟩
   ·omega
   ·by_cases hroom:n - 1+m≤cap
    ·refine(zV g cap n i xs vb vc m news w S B h hx1 hv (fun e=>hvg' (by rw[e];rfl)) hone hn hmm (by omega) (by omega) hroom _ _ rfl rfl).mono ?_
     rintro e w' ⟨v',rfl,h1,h2⟩
     exact⟨v',rfl,h1,h2.mono (fun k _ hk=>by rw[hk];rfl)⟩
    ·refine(zX g cap n i xs vb vc m news w S B hS hB h hx1 hv hone hn hmm (by omega) (by omega) _ _ rfl rfl).mono ?_
     rintro e w' ⟨v',rfl,h1,h2⟩
     exact⟨v',rfl,h1,h2.mono (fun _ _ hk=>hk.elim)⟩
theorem z8 (g cap n i:Nat) (xs:List Value) (vb vc m:Nat) (news:List Value) (w:World) (S:Nat→Prop) (B:Nat) (hS:∀g,S g→g<w.heap.size) (hB:B≤w.heap.size) (h:aS w S B 3 1 (.slice (some ⟨g,0,none⟩) n cap) n xs) (hx1:∀u∈xs,u.oneCell'=true) (hv:aS w S B 3 1 (.slice (some ⟨vb,0,none⟩) m vc) m news) (hone:∀u∈news,u.oneCell'=true) (hn:n≤1000000) (hmm:m≤1000000) (hi:i+1<n) (hroom:cap<n - 1+m) (N:Nat) (L:List Value) (hN:N=n - 1+m) (hL:L=xs.take i++news++xs.drop (i+1)):
  Calls Tryz.prog 188 #[.slice (some ⟨g,0,none⟩) n cap,.int .i64 i,.int .i64 ((i:Int)+1),.slice (some ⟨vb,0,none⟩) m vc] w fun e w'=>∃v',e= .returned v'∧aS w' S B 3 1 v' N L∧Keep fO w w':=by
 obtain⟨cur,hr,hl,hx,hBg,hSg,hc,hc2⟩:=h.row
 have hc3:cap≤9223372036854775807:=by simpa [maxLen] using hc2
 have hnl:news.length=m:=by have:=hv.1.1;omega
 have hll:cur.length=cap:=by omega
 have hx':cur.take n=xs:=by rw[←hx,aV]
 have hvs:=hv.dD
 obtain⟨vo,vc',e0,v1,v2,_,_⟩:=hv.dD.form
 cases e0
 clear h hv hl hx
 obtain⟨d,rfl⟩:∃d,n=i+1+(d+1):=⟨n - (i+2),by omega⟩
 have HN:=af hN;clear hN
 have HL:=af hL;clear hL
 have k1:(0:Int)≤(i:Int):=by omega
 have k2:(i:Int)≤(cap:Int):=by omega
 have k3:(0:Int)≤(i:Int)+1:=by omega
 have k4:(i:Int)+1≤(cap:Int):=by omega
 have k5:((i:Int)+1).toNat=i+1:=by omega
 have Hl:=af hll;clear hll
 have Hx:=af hx';clear hx'
 have Hn:=af hnl;clear hnl
 have k6:¬cap=i+1:=by omega
 have k7:(i:Int)+1≤(i:Int)+1+((d:Int)+1):=by omega
 have k8:IntKind.i64.wrap ((i:Int)+(m:Int))=(i:Int)+(m:Int):=aR _ (by omega)
 have k9:i+1+(d+1) - (i+1)=d+1:=by omega
 have k10:IntKind.i64.wrap ((i:Int)+(m:Int)+((d:Int)+1))=(i:Int)+(m:Int)+((d:Int)+1):=aR _ (by omega)
 have k11:(cap:Int)<(i:Int)+(m:Int)+((d:Int)+1):=by omega
 have k17:¬cap=i:=by omega
 have k18:(i:Int)+(m:Int)+((d:Int)+1) - (i:Int)=((m+(d+1):Nat):Int):=by omega
 have k19:i+(m+(d+1))=i+m+(d+1):=by omega
 have k20:(0:Int)≤(i:Int)+(m:Int):=by omega
 have k22:((i:Int)+(m:Int)).toNat=i+m:=by omega
 have hD:(xs.drop (i+1)).length=d+1:=by rw[aO,←Hx.out,aD,Hl.out];omega
 have hT:cur.take i=xs.take i:=by rw[←Hx.out,dF,bM (by omega)]
 have hgl:g<w.heap.size:=hr.lt
 have HD:=af hD;clear hD
 have HT:=af hT;clear hT
 go_enter Tryz.func188,Tryz.ntmps188
 go_wp2_with fail
 refine aP (fun _=>True) (fun _=>true) [0,1,2,3,4,5,6,7,8,9,10,11,12] rfl (by kernel_rfl) trivial ?_
 repeat ((refine bO (v:= ?_) rfl rfl (fun _ _ _ h=>h) rfl (fun W hW=> ?_) ?_);rotate_left;(focus ((try dsimp only at hW);skip;first|(go_simp;first|done|with_reducible rfl)));(try simp only[Act.put,aj,au,ak]))
 refine bR ?_
 go_wp2_with (first|(at_builtin;(refine dM rfl ?_);intro K hK;go_must ((refine qU (w:=w.drew) (.tmp 63) (.tmp 66) 151 3 rfl 3 1 8 _ Tryz.underlying151 Tryz.underlying3 gV rfl (by omega) g i cap (m+(d+1)) cur rfl ?_ hr ?_ ?_ ?_ ?_ ?_ ?_);(focus (first|rfl|(show Value.int _ _=_;congr 1;first|done|omega)));(focus (rw[Hl.out];omega));(focus omega);(focus omega);(focus (unfold maxLen;omega));(focus omega);intro c1 w1 rest hr1 hl1 hc1 hc1' hk1;refine hK _ _ (Stop.of ?_))))
 have hr1:Row w1 w.heap.size 3 (cur.take i++rest):=by rw[aV] at hr1;exact hr1
 have hl1:(cur.take i++rest).length=c1:=by rw[aV,aV] at hl1;exact hl1
 have hk1:Keep fO w w1:=(Keep.refl fO w).drew.trans hk1 (fun _ _ h=>h)
 have k12:¬c1=i:=by omega
 have k14:¬c1=i+m:=by omega
 have k15:(i:Int)≤(c1:Int):=by omega
 have k16:(i:Int)+(m:Int)≤(i:Int)+(m:Int)+((d:Int)+1):=by omega
 have hc1'':c1≤9223372036854775807:=by simpa [maxLen] using hc1'
 have hci:(cur.take i).length=i:=by rw[aD,Hl.out];omega
 obtain⟨hF1,hF2⟩:=zn (cur.take i++rest) news (xs.drop (i+1)) i (by rw[Hn.out,HD.out,hl1];omega)
 rw[Hn.out,HD.out,List.take_left' hci] at hF2
 rw[Hn.out] at hF1
 have hcs1:(Builtin.firstCells 1 m (.slice (some ⟨vb,0,none⟩) m vc)).run Tryz.prog w1= .ok news.toArray w1:=by
  have h1:=bE.first (P:=Tryz.prog) (w:=w1) (hvs.keep fun g' hg hl hs=>⟨hk1.block g' hl id,hs⟩) m (aG _)
  rwa [aN (by rw[Hn.out];omega)] at h1
 have Hl1:=af hl1;clear hl1
 have HF1:=af hF1;clear hF1
 have HF2:=af hF2;clear hF2
 have Hc1:=af hcs1;clear hcs1
 have Hci:=af hci;clear hci
 refine Stop.on ?_
 go_wp2_with (first|((refine dM rfl ?_);intro K hK;(refine fQ (.tmp 70) (.tmp 71) 151 151 rfl 3 1 8 _ Tryz.underlying151 gV w.heap.size i 3 m (i+m+(d+1) - i) (c1 - i) (some ⟨w.heap.size,i,none⟩) _ ?_ hr1 (.slice (some ⟨vb,0,none⟩) m vc) rfl m news rfl ?_ ?_ Hc1.out (fun _=>rfl) ?_ hone ?_);go_must ((focus (first|rfl|(show Value.slice _ _ _=_;congr 1;omega)));(focus (exact(bM (by omega)).symm));(focus (rw[Hn.out,aV]));(focus (rw[Hl1.out,Hn.out];omega));intro w2 hr2 hk2;refine hK _ _ (Stop.of ?_))))
 have hkk:Keep fO w w2:=hk1.trans hk2 (fun _ hl e=>absurd hl (by omega))
 have hg2:Row w2 g 3 cur:=hr.keep hkk id
 have hcs:(Builtin.firstCells 1 (d+1) (.slice (some ⟨g,i+1,none⟩) (d+1) (cap - (i+1)))).run Tryz.prog w2.drew= .ok (xs.drop (i+1)).toArray w2.drew:=by
  have h1:=(Row.dD (w:=w2.drew) (S:=fO) (k:=1) (off:=i+1) hg2 (d+1) (cap - (i+1)) (by rw[Hl.out];omega) id (by omega) (by unfold maxLen;omega)).first (P:=Tryz.prog) (d+1) (aG _)
  rw[dF,gN,aV] at h1
  rwa [show (cur.drop (i+1)).take (d+1)=xs.drop (i+1) by rw[←Hx.out,gQ];congr 1;omega] at h1
 have Hcs:=af hcs;clear hcs
 have k23:i+m+(d+1) - (i+m)=d+1:=by omega
 refine Stop.on ?_
 go_wp2_with fail
 refine aP (fun _=>True) (fun i=> !([9].contains i)) [0,1,2,3,4,5,6,7,8,9] rfl (by kernel_rfl) trivial ?_
 repeat ((refine bO (v:= ?_) rfl rfl (fun _ _ _ h=>h) rfl (fun W hW=> ?_) ?_);rotate_left;(focus ((try dsimp only at hW);skip;first|(go_simp;first|done|with_reducible rfl)));(try simp only[Act.put,aj,au,ak]))
 refine ja rfl rfl rfl (by kernel_rfl) ?_
 intro K hK
 refine fQ (.tmp 78) (.tmp 81) 151 151 rfl 3 1 8 _ Tryz.underlying151 gV w.heap.size (i+m) 3 (d+1) (d+1) (c1 - (i+m)) (some ⟨w.heap.size,i+m,none⟩) _ rfl (w:=w2.drew) hr2 (.slice (some ⟨g,i+1,none⟩) (d+1) (cap - (i+1))) rfl (d+1) (xs.drop (i+1)) rfl (gN _).symm (by rw[HD.out,aV]) Hcs.out (fun _=>rfl) ?_ (fun u hu=>hx1 u (bS hu)) ?_
 ·rw[length_splice _ _ _ (by rw[Hn.out,Hl1.out];omega),HD.out,Hl1.out];omega
 intro w3 hr3 hk3
 refine hK.out _ _ (bR ?_)
 go_wp2
 go_ret
 have hown:=Row.own (S:=S) (B:=B) (k:=1) hr3 (i+m+(d+1)) (by rw[HF1.out,Hl1.out,aV]) hB (fun hs=>absurd (hS _ hs) (dI _)) (by omega) hc1'
 rw[aV,HF2.out] at hown
 refine⟨_,rfl,?_,hkk.drew.trans hk3 (fun _ hl e=>absurd hl (by omega))⟩
 rw[HL.out,show N=i+m+(d+1) by rw[HN.out];omega,←HT.out]
 exact hown
theorem H9 (v:Value) (n i:Nat) (xs:List Value) (vv:Value) (m:Nat) (news:List Value) (w:World) (S:Nat→Prop) (B:Nat) (hS:∀g,S g→g<w.heap.size) (hB:B≤w.heap.size) (h:aS w S B 3 1 v n xs) (hx1:∀u∈xs,u.oneCell'=true) (hv:aS w S B 3 1 vv m news) (hvg:∀g,v.ownBlock=some g→vv.ownBlock≠some g) (hone:∀u∈news,u.oneCell'=true) (hn:n≤1000000) (hmm:m≤1000000) (hi:i<n):
  Calls Tryz.prog 188 #[v,.int .i64 i,.int .i64 ((i:Int)+1),vv] w fun e w'=>∃v',e= .returned v'∧aS w' S B 3 1 v' (n - 1+m) (xs.take i++news++xs.drop (i+1))∧Keep (fun g=>v.ownBlock=some g) w w':=by
 have hxl:=h.1.1
 have hnl:=hv.1.1
 rw[aV] at hxl hnl
 rcases h.1.2 with ⟨rfl,h0⟩|⟨g,cap,cur,rfl,_⟩
 ·omega
 have hvg':=hvg g rfl
 by_cases hin:n=i+1
 ·have e1:xs.drop (i+1)=[]:=dQ (by omega)
  have e2:n - 1+m=i+m:=by omega
  rw[e1,e2,dG]
  by_cases hm0:m=0
  ·subst hm0
   obtain rfl:news=[]:=aU hnl
   refine(BN g cap n i xs vv w S B h hv hn hin).mono ?_
   rintro e w' ⟨v',rfl,h1,h2⟩
   exact⟨v',rfl,by rw[dG];exact h1,h2.mono (fun k _ hk=>by rw[hk];rfl)⟩
  ·refine(BM g cap n i xs vv m news w S B hS hB h hv hone hn hmm hin (by omega)).mono ?_
   rintro e w' ⟨v',rfl,h1,h2,_⟩
   exact⟨v',rfl,h1,h2.mono (fun k _ hk=>by rw[hk];rfl)⟩
 ·by_cases hm1:m≤1
  ·refine(zZ g cap n i xs vv m news w S B h hx1 hv hvg' hone hn (by omega) hm1 _ _ rfl rfl).mono ?_
   rintro e w' ⟨v',rfl,h1,h2⟩
   exact⟨v',rfl,h1,h2.mono (fun k _ hk=>by rw[hk];rfl)⟩
  ·rcases hv.1.2 with ⟨rfl,h0⟩|⟨vb,vc,curv,rfl,_⟩
   ·omega
   ·by_cases hroom:n - 1+m≤cap
    ·refine(zY g cap n i xs vb vc m news w S B h hx1 hv (fun e=>hvg' (by rw[e];rfl)) hone hn hmm (by omega) (by omega) hroom _ _ rfl rfl).mono ?_
     rintro e w' ⟨v',rfl,h1,h2⟩
     exact⟨v',rfl,h1,h2.mono (fun k _ hk=>by rw[hk];rfl)⟩
    ·refine(z8 g cap n i xs vb vc m news w S B hS hB h hx1 hv hone hn hmm (by omega) (by omega) _ _ rfl rfl).mono ?_
     rintro e w' ⟨v',rfl,h1,h2⟩
     exact⟨v',rfl,h1,h2.mono (fun _ _ hk=>hk.elim)⟩
end Go.Proofs.YtpgdljlghiifjaaGreatDoor
