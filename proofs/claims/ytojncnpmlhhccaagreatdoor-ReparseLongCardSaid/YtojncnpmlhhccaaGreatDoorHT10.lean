/- tree's in, below and its iterator, walked. -/
import Derived.Test.YtojncnpmlhhccaaGreatDoorHT9
set_option linter.all false
namespace Go.Ab
open Go Go.Lib Go.Proofs
theorem t_in_ok {G:Nat→Option (List AV)} (E:Env G) (X:EnvH G) (T:EnvT G) {l:List Nd} (hv:ValidN l) {node:Nat} (hn:node<l.length):PureCall Tryz.prog G 31 [.agg [.lst l.length (ndsH l)],.int .i64 node] (.bool true):=by
 intro H
 refine ACalls.keep (ACalls.of Tryz.func31 S31_eq R31 N31 rfl rfl ?_)
 have d0:decide ((node:Int)≥0)=true:=by simp
 have d1:decide ((node:Int)<(l.length:Int))=true:=by simp;omega
 simp (maxSteps:=400000) only[wF,storeA,reduceCtorEq,Nat.reduceAdd,Nat.reduceSub,Nat.reduceEqDiff,Nat.reduceLeDiff,Int.reduceToNat,Int.reduceLE,Int.reduceLT,Int.reduceAdd,Int.reduceNeg,Nat.reduceMul,S31,N31,R31,T31,AV.boxable,d0,d1]
 generalize hX:AHeap.allocAt _ _ _=X1
 have xn:X1.next=H.next+1:=by rw[←hX];simp only[AHeap.next_allocAt];omega
 have xo:∀j,j<H.next→X1.get j=H.get j:=fun j hj=>by rw[←hX,AHeap.get_allocAt_ne _ _ (by omega)]
 clear hX
 refine AInv.pureK B21 (t_Check_ok E X T hv) fun H1 h1=>?_
 have z:((0:Int)==0)=true:=rfl
 simp (maxSteps:=400000) only[wF,storeA,reduceCtorEq,Nat.reduceAdd,Nat.reduceSub,Nat.reduceEqDiff,Nat.reduceLeDiff,Int.reduceToNat,Int.reduceLE,Int.reduceLT,Int.reduceAdd,Int.reduceNeg,Nat.reduceMul,T31,z]
 have:=h1.1
 exact⟨by omega,fun j hj=>by rw[h1.2];exact xo j hj⟩
theorem t_below_ok (G:Nat→Option (List AV)) {l:List Nd} {node:Nat} (H:AHeap):ACalls Tryz.prog G 37 [.agg [.lst l.length (ndsH l)],.int .i64 node] H fun r H'=>
  r = .ret (.func 74 [.ptr (H.next+1) 0,.ptr H.next 0])∧H'.get H.next=some (.cells 25 [.lst l.length (ndsH l)])∧H'.get (H.next+1)=some (.cells 3 [.int .i64 node])∧H'.next=H.next+2∧∀j,j<H.next→H'.get j=H.get j:=by
 refine ACalls.of Tryz.func37 S37_eq R37 N37 rfl rfl ?_
 simp (maxSteps:=400000) only[wF,storeA,reduceCtorEq,Nat.reduceAdd,Nat.reduceSub,Nat.reduceEqDiff,Nat.reduceLeDiff,Int.reduceToNat,Int.reduceLE,Int.reduceLT,Int.reduceAdd,Int.reduceNeg,Nat.reduceMul,S37,N37,R37,T37,AV.boxable]
 refine⟨rfl,fun j hj=>?_⟩
 rw[if_neg (by omega),if_neg (by omega)]
def stopN (l:List Nd) (a:Nat):Nat→Nat→Nat
 | 0,k=>k
 | f+1,k=>if k<l.length∧aboveN l a k=true then stopN l a f (k+1)else k
theorem AYield.mono {P:Program} {G:Nat→Option (List AV)} {k:Nat} {args:List AV} {H:AHeap} {K K':AV→AHeap→Prop} (h:AYield P G k args H K) (hk:∀v H,K v H→K' v H):AYield P G k args H K':=
 let ⟨b,ps,x,y,h1,h2⟩:=h;⟨b,ps,x,y,h1,h2.mono hk⟩
set_option maxHeartbeats 4000000 in
set_option maxRecDepth 100000 in
theorem t_below1_ok (G:Nat→Option (List AV)) {l:List Nd} {node k i j:Nat} (hl:l.length≤65536) (hu:∀m,m<l.length→UpOk l m) (I:Nat→AHeap→Prop)
  (hI:∀m J,I m J→J.get i=some (.cells 3 [.int .i64 node])∧J.get j=some (.cells 25 [.lst l.length (ndsH l)]))
  (hK:∀m J J',I m J→Keeps J J'→I m J')
  (hy:∀m J,I m J→node<m→m<l.length→aboveN l node m=true→AYield Tryz.prog G k [.int .i64 m,.agg (ndH (l.getD m nd0))] J fun v J'=>v = .bool true∧I (m+1) J')
  {H:AHeap} (hn:node<l.length) (h0:I (node+1) H) :
  ACalls Tryz.prog G 74 [.yld k,.ptr i 0,.ptr j 0] H fun r H'=>r = .ret (.tup [])∧I (stopN l node l.length (node+1)) H':=by
 refine ACalls.of Tryz.func74 S74_eq R74 N74 rfl rfl ?_
 have ew0:IntKind.i64.wrap ((node:Int)+1)=((node+1:Nat):Int):=by rw[wrap64]<;>omega
 obtain⟨a1,a2⟩:=hI _ _ h0
 simp (maxSteps:=400000) only[wF,storeA,reduceCtorEq,Nat.reduceAdd,Nat.reduceSub,Nat.reduceEqDiff,Nat.reduceLeDiff,Int.reduceToNat,Int.reduceLE,Int.reduceLT,Int.reduceAdd,Int.reduceNeg,Nat.reduceMul,S74,N74,R74,T74,a1,ew0]
 refine ATrS.loopK (κ:=Nat × AHeap) (fun c=>[.yld k,.ptr i 0,.ptr j 0,.und,.int .i64 c.1]++List.replicate 24 .und) (fun c=>c.2)
  (fun c=>node<c.1∧c.1≤l.length∧I c.1 c.2∧∃f,l.length≤c.1+f∧stopN l node f c.1=stopN l node l.length (node+1)) (fun c=>l.length-c.1)
  ⟨(node+1,H),⟨by simp only;omega,hn,h0,l.length,by simp only;omega,rfl⟩,by simp[Fg],HW.refl _⟩ ?_
 clear a1 a2 h0 ew0
 rintro⟨m,J⟩ ⟨hm,hml,hIm,f,hf,hst⟩
 simp only at hm hml hIm hf hst
 obtain⟨a1,a2⟩:=hI _ _ hIm
 by_cases hlt:m<l.length
 case neg=>
  have d0:decide ((m:Int)<(l.length:Int))=false:=by simp;omega
  have he:stopN l node f m=m:=by
   cases f with
   | zero=>rfl
   | succ f=>rw[stopN,if_neg (fun h=>hlt h.1)]
  rw[he]at hst
  simp (maxSteps:=400000) only[wF,storeA,reduceCtorEq,Nat.reduceAdd,Nat.reduceSub,Nat.reduceEqDiff,Nat.reduceLeDiff,Int.reduceToNat,Int.reduceLE,Int.reduceLT,Int.reduceAdd,Int.reduceNeg,Nat.reduceMul,T74,a1,a2,d0]
  first | exact⟨rfl,hst▸hIm⟩ | exact hst▸hIm
 have d0:decide ((m:Int)<(l.length:Int))=true:=by simp;omega
 obtain⟨f,rfl⟩:∃f',f=f'+1:=⟨f-1,by omega⟩
 simp (maxSteps:=400000) only[wF,storeA,reduceCtorEq,Nat.reduceAdd,Nat.reduceSub,Nat.reduceEqDiff,Nat.reduceLeDiff,Int.reduceToNat,Int.reduceLE,Int.reduceLT,Int.reduceAdd,Int.reduceNeg,Nat.reduceMul,T74,a1,a2,d0]
 refine AInv.pureK B36 (t_above_ok G (l:=l) (a:=node) hlt (hu m hlt)) fun J1 h1=>?_
 have hI1:=hK _ _ _ hIm h1
 obtain⟨b1,b2⟩:=hI _ _ hI1
 cases hab:aboveN l node m with
 | false=>
  have he:stopN l node (f+1) m=m:=by rw[stopN,if_neg (fun h=>by rw[hab]at h;cases h.2)]
  rw[he]at hst
  simp (maxSteps:=400000) only[wF,storeA,reduceCtorEq,Nat.reduceAdd,Nat.reduceSub,Nat.reduceEqDiff,Nat.reduceLeDiff,Int.reduceToNat,Int.reduceLE,Int.reduceLT,Int.reduceAdd,Int.reduceNeg,Nat.reduceMul,T74,b1,b2]
  first | exact⟨rfl,hst▸hI1⟩ | exact hst▸hI1
 | true=>
  have he:stopN l node (f+1) m=stopN l node f (m+1):=by rw[stopN,if_pos ⟨hlt,hab⟩]
  rw[he]at hst
  have q1:((m:Int)<(l.length:Int))=True:=by simp;omega
  have hat:=ndsH_at l m hlt
  have hxe:=nd_getD hlt
  have hle:(m*4+4≤(ndsH l).length)=True:=by rw[ndsH_len];simp;omega
  have ew:IntKind.i64.wrap ((m:Int)+1)=((m+1:Nat):Int):=by rw[wrap64]<;>omega
  have hym:=hy m J1 hI1 hm hlt hab
  rw[hxe]at hym
  simp only[ndH]at hat hym
  generalize l[m]=x at hat hxe hym
  simp (maxSteps:=400000) only[wF,storeA,reduceCtorEq,Nat.reduceAdd,Nat.reduceSub,Nat.reduceEqDiff,Nat.reduceLeDiff,Int.reduceToNat,Int.reduceLE,Int.reduceLT,Int.reduceAdd,Int.reduceNeg,Nat.reduceMul,T74,b1,b2,q1,hat,hle,indexAddrA]
  refine hym.mono ?_
  rintro v J2 ⟨rfl,hI2⟩
  simp (maxSteps:=400000) only[wF,storeA,reduceCtorEq,Nat.reduceAdd,Nat.reduceSub,Nat.reduceEqDiff,Nat.reduceLeDiff,Int.reduceToNat,Int.reduceLE,Int.reduceLT,Int.reduceAdd,Int.reduceNeg,Nat.reduceMul,T74,Bool.not_true,ew]
  exact⟨(m+1,J2),⟨by simp only;omega,hlt,hI2,f,by simp only;omega,hst⟩,by simp only;omega,by simp[Fg],HW.refl _⟩
end Go.Ab
