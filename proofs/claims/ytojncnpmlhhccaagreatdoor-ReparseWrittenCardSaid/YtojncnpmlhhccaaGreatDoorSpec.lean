/- What the parser computes, as plain functions on lists of bytes. Bounds of what the parser computes, and steps of its loops. Events one after the other. -/
import Derived.Test.YtojncnpmlhhccaaGreatDoorAbC
set_option linter.all false
namespace Go.Ab
open Go Go.Lib
def sCdata:List UInt8:=[60,33,91,67,68,65,84,65,91]
def sCend:List UInt8:=[93,93,62]
def sCom:List UInt8:=[60,33,45,45]
def sDash:List UInt8:=[45,45]
def sXml:List UInt8:=[60,63,120,109,108]
def isW (c:UInt8):Bool:=c==32||c==9||c==10
def skipN (s:List UInt8) (i:Nat):Nat:=i+((s.drop i).takeWhile isW).length
def untilN (s:List UInt8) (i:Nat) (stop:List UInt8):Nat:=i+((s.drop i).takeWhile fun c => !isW c&&decide (Lib.indexByte stop c<0)).length
def cdataS (s:List UInt8) (i:Nat):List UInt8 × Nat × Bool:=
 if Lib.hasPrefix (s.drop i) sCdata=true then((Lib.cut ((s.drop i).drop 9) sCend).1,i+9+(Lib.cut ((s.drop i).drop 9) sCend).1.length+3,(Lib.cut ((s.drop i).drop 9) sCend).2.2)else([],0,false)
def commentS (s:List UInt8) (i:Nat):List UInt8 × Nat × Bool:=
 if Lib.hasPrefix (s.drop i) sCom=true then((Lib.cut ((s.drop i).drop 4) sDash).1,i+4+(Lib.cut ((s.drop i).drop 4) sDash).1.length+3,(Lib.cut ((s.drop i).drop 4) sDash).2.2&&Lib.hasPrefix (Lib.cut ((s.drop i).drop 4) sDash).2.1 [62])else([],0,false)
def declS (s:List UInt8):Int:=
 if Lib.hasPrefix s sXml=true∧s.length≠5∧isW (s.getD 5 0)=true then
  (if 0≤Lib.index (s.drop 5) [63,62]then 5+Lib.index (s.drop 5) [63,62]+2 else -1)
 else 0
def isCharS (c:Int):Bool:=
 (c==9||c==10||c==13)||(decide (32≤c)&&decide (c≤55295))||(decide (57344≤c)&&decide (c≤65533))||(decide (65536≤c)&&decide (c≤1114111))
def isLetterS (c:Int):Bool:=
 (decide (97≤c)&&decide (c≤122))||(decide (65≤c)&&decide (c≤90))||c==95||(decide (192≤c)&&c != 215&&c != 247)
def headTextS (l:List UInt8):Bool:=isCharS (dec l).1&&(!((dec l).1==65533)||Lib.hasPrefix l [239,191,189])
def textF:Nat→List UInt8→Bool
 | 0,_=>true
 | _+1,[]=>true
 | f+1,b::l=>headTextS (b::l)&&textF f ((b::l).drop (dec (b::l)).2)
def isTextS (s:List UInt8):Bool:=textF s.length s
def partChar (first:Bool) (c:Int):Bool:=
 isLetterS c||(!first&&(c==45||c==46||c==183||(decide (48≤c)&&decide (c≤57))))
def partF:Nat→Bool→List UInt8→Bool
 | 0,_,_=>true
 | _+1,_,[]=>true
 | f+1,first,b::l=>partChar first (dec (b::l)).1&&partF f false ((b::l).drop (dec (b::l)).2)
def isPartS (s:List UInt8):Bool:=partF s.length true s&&s != []
def countF:Nat→List UInt8→Nat
 | 0,_=>0
 | _+1,[]=>0
 | f+1,b::l=>1+countF f ((b::l).drop (dec (b::l)).2)
def countS (s:List UInt8):Nat:=countF s.length s
def isNameS (s:List UInt8):Bool:=
 isTextS s&&decide (countS s≤100)&&isPartS (Lib.cut s [58]).1&&(!(Lib.cut s [58]).2.2||isPartS (Lib.cut s [58]).2.1)
def isXmlS (l:List UInt8):Bool:=
 match l with
 | [a,b,c]=>(a==120||a==88)&&(b==109||b==77)&&(c==108||c==76)
 | _=>false
def instrS (s:List UInt8) (i:Nat):List UInt8 × List UInt8 × Nat × Bool:=
 if Lib.hasPrefix (s.drop i) [60,63]=true then
  let k:=untilN s (i+2) [63]
  let name:=(s.take k).drop (i+2)
  if isNameS name=true∧isXmlS name=false then
   let from_:=skipN s k
   let n:=Lib.index (s.drop from_) [63,62]
   if n<0∨(0<n∧from_=k)then([],[],0,false)
   else(name,(s.take (from_+n.toNat)).drop from_,from_+n.toNat+2,true)
  else([],[],0,false)
 else([],[],0,false)
def endS (s:List UInt8) (i:Nat):List UInt8 × Nat × Bool:=
 if Lib.hasPrefix (s.drop i) [60,47]=true then
  let k:=untilN s (i+2) [62]
  let name:=(s.take k).drop (i+2)
  (name,skipN s k+1,isNameS name&&Lib.hasPrefix (s.drop (skipN s k)) [62])
 else([],0,false)
def entityS (l:List UInt8):List UInt8 × Bool:=
 if l=[108,116]then([60],true)else if l=[103,116]then([62],true)else if l=[97,109,112]then([38],true)
 else if l=[113,117,111,116]then([34],true)else if l=[97,112,111,115]then([39],true)else([],false)
def digitS (base:Nat) (c:UInt8):Option Nat:=
 if 48≤c.toNat∧c.toNat≤57 then some (c.toNat-48)
 else if base=16∧97≤c.toNat∧c.toNat≤102 then some (c.toNat-87)
 else if base=16∧65≤c.toNat∧c.toNat≤70 then some (c.toNat-55)
 else none
def parseF (base:Nat):Nat→List UInt8→Option Nat
 | n,[]=>some n
 | n,c::l=>match digitS base c with
  | none=>none
  | some d=>if n*base+d≤2147483647 then parseF base (n*base+d) l else none
def parseS (base:Nat) (l:List UInt8):Option Nat:=if l=[]then none else parseF base 0 l
def charS (n:Nat):List UInt8 × Bool:=if isCharS n=true then(Lib.encodeRune n,true)else([],false)
def numS (name:List UInt8):Option Nat:=
 if Lib.hasPrefix name [35]=true then
  (if Lib.hasPrefix (name.drop 1) [120]=true then parseS 16 (name.drop 2)else parseS 10 (name.drop 1))
 else none
def refS (s:List UInt8) (i:Nat):List UInt8 × Nat × Bool:=
 let x:=Lib.cut (s.drop (i+1)) [59]
 if x.2.2=true then
  if(entityS x.1).2=true then((entityS x.1).1,i+1+x.1.length+1,true)
  else match numS x.1 with
   | none=>([],0,false)
   | some n=>((charS n).1,i+1+x.1.length+1,(charS n).2)
 else([],0,false)
def valueF:Nat→List UInt8→Nat→List UInt8→List UInt8 × Bool
 | 0,_,_,acc=>(acc,true)
 | f+1,s,i,acc=>
  if i<s.length then
   let c:=s.getD i 0
   if c=60 then([],false)
   else if c=38 then(if(refS s i).2.2=true then valueF f s (refS s i).2.1 (acc++(refS s i).1)else([],false))
   else valueF f s (i+1) (acc++[if isW c=true then 32 else c])
  else(acc,true)
def valueS (s:List UInt8):List UInt8 × Bool:=valueF (s.length+1) s 0 []
def attrS (s:List UInt8) (i:Nat):(List UInt8 × List UInt8) × Nat × Bool:=
 let k:=untilN s i [61]
 let name:=(s.take k).drop i
 let k2:=skipN s k
 if isNameS name=true∧Lib.hasPrefix (s.drop k2) [61]=true then
  let k3:=skipN s (k2+1)
  if k3<s.length∧(s.getD k3 0=34∨s.getD k3 0=39)then
   let n:=Lib.indexByte (s.drop (k3+1)) (s.getD k3 0)
   if n<0 then(([],[]),0,false)
   else
    let v:=valueS ((s.take (k3+1+n.toNat)).drop (k3+1))
    ((name,v.1),k3+n.toNat+2,v.2)
  else(([],[]),0,false)
 else(([],[]),0,false)
def tagF:Nat→List UInt8→Nat→List (List UInt8 × List UInt8)→Option (List (List UInt8 × List UInt8) × Bool × Nat)
 | 0,_,_,_=>none
 | f+1,s,k,l=>
  let from_:=skipN s k
  if Lib.hasPrefix (s.drop from_) [62]=true then some (l,false,from_+1)
  else if Lib.hasPrefix (s.drop from_) [47,62]=true then some (l,true,from_+2)
  else if from_=k then none
  else if(attrS s from_).2.2=true then tagF f s (attrS s from_).2.1 (l++[(attrS s from_).1])
  else none
structure Tag where
 name:List UInt8
 attrs:List (List UInt8 × List UInt8)
 empty:Bool
 next:Nat
def startS (s:List UInt8) (i:Nat):Option Tag:=
 let k:=untilN s (i+1) [47,62]
 let name:=(s.take k).drop (i+1)
 if isNameS name=true then(tagF (s.length+1) s k []).map fun x=>⟨name,x.1,x.2.1,x.2.2⟩else none
abbrev Pos:=Nat × Nat × Nat
def step1 (s:List UInt8) (x:Pos):Pos:=
 let d:=dec (s.drop x.1)
 if d.1=10 then(x.1+d.2,x.2.1+1,1)else(x.1+d.2,x.2.1,x.2.2+1)
def findF (s:List UInt8) (at_:Nat):Nat→Pos→Pos
 | 0,x=>x
 | f+1,x=>if x.1<at_ then findF s at_ f (step1 s x)else x
def findS (s:List UInt8) (at_:Nat) (x:Pos):Pos:=findF s at_ (at_-x.1) x
structure Wrong where
 at_:Nat
 e:Nat
def ptextF:Nat→Bool→List UInt8→Nat→List UInt8→Except Wrong (List UInt8)
 | 0,_,_,_,acc => .ok acc
 | f+1,top,s,i,acc=>
  if i<s.length then
   let d:=dec (s.drop i)
   if top=true then(if isW (s.getD i 0)=true then ptextF f top s (i+d.2) acc else .error ⟨i,5⟩)
   else if d.1=38 then(if(refS s i).2.2=true then ptextF f top s (refS s i).2.1 (acc++(refS s i).1)else .error ⟨i,5⟩)
   else if Lib.hasPrefix (s.drop i) sCend=true then .error ⟨i,5⟩
   else ptextF f top s (i+d.2) (acc++(s.take (i+d.2)).drop i)
  else .ok acc
def ptextS (top:Bool) (s:List UInt8) (i:Nat) (acc:List UInt8):Except Wrong (List UInt8):=ptextF (s.length-i) top s i acc
def rowF:Nat→Bool→List UInt8→Nat→List UInt8→Bool→Except Wrong (List UInt8 × Bool × Nat)
 | 0,_,_,i,acc,is => .ok (acc,is,i)
 | f+1,top,s,i,acc,is=>
  if i<s.length then
   if(cdataS s i).2.2=true then(if top=true then .error ⟨i,5⟩else rowF f top s (cdataS s i).2.1 (acc++(cdataS s i).1) true)
   else
    let n:=Lib.indexByte (s.drop i) 60
    if n=0 then .ok (acc,is,i)
    else
     let end_:=if 0<n then i+n.toNat else s.length
     match ptextS top (s.take end_) i acc with
     | .error w => .error w
     | .ok acc'=>rowF f top s end_ acc' true
  else .ok (acc,is,i)
def rowS (top:Bool) (s:List UInt8) (i:Nat):Except Wrong (List UInt8 × Bool × Nat):=rowF (s.length-i) top s i [] false
structure Ev where
 kind:Nat
 name:List UInt8
 text:List UInt8
 attrs:List (List UInt8 × List UInt8)
 line:Nat
 col:Nat
deriving DecidableEq
def noEv:Ev:=⟨0,[],[],[],0,0⟩
structure Pst where
 i:Nat
 opens:List (List UInt8)
 any:Bool
 empty:Option Ev
def twiceF:List (List UInt8)→List (List UInt8 × List UInt8)→Bool
 | _,[]=>false
 | seen,a::l=>seen.contains a.1||twiceF (a.1::seen) l
def pieceS (s:List UInt8) (p:Pst):Except Wrong (Ev × Pst):=
 if(commentS s p.i).2.2=true then .ok (⟨EvK 3,[],(commentS s p.i).1,[],0,0⟩,{ p with i:=(commentS s p.i).2.1 })
 else if(instrS s p.i).2.2.2=true then .ok (⟨EvK 4,(instrS s p.i).1,(instrS s p.i).2.1,[],0,0⟩,{ p with i:=(instrS s p.i).2.2.1 })
 else if(endS s p.i).2.2=true then
  (if p.opens.getLast?=some (endS s p.i).1 then .ok (⟨EvK 1,(endS s p.i).1,[],[],0,0⟩,{ p with i:=(endS s p.i).2.1,opens:=p.opens.dropLast })
  else .error ⟨p.i,110⟩)
 else match startS s p.i with
  | none => .error ⟨p.i,5⟩
  | some t=>
   if p.opens=[]∧p.any=true then .error ⟨p.i,5⟩
   else if twiceF [] t.attrs=true then .error ⟨p.i,4⟩
   else if 200≤p.opens.length then .error ⟨p.i,2⟩
   else .ok (⟨EvK 0,t.name,[],t.attrs,0,0⟩,
    if t.empty=true then { p with i:=t.next,any:=true,empty:=some ⟨EvK 1,t.name,[],[],0,0⟩ }
    else { p with i:=t.next,any:=true,opens:=p.opens++[t.name] })
where EvK (n:Nat):Nat:=n
def eventF:Nat→List UInt8→Pst→Except Wrong (Option (Ev × Nat) × Pst)
 | 0,_,p => .ok (none,p)
 | f+1,s,p=>
  if p.i<s.length then
   match rowS (p.opens==[]) s p.i with
   | .error w => .error w
   | .ok (row,is,j)=>
    if is=true then
     if row=[]then eventF f s { p with i:=j }
     else .ok (some (⟨2,[],row,[],0,0⟩,p.i),{ p with i:=j })
    else match pieceS s p with
     | .error w => .error w
     | .ok (x,q) => .ok (some (x,p.i),q)
  else if p.opens≠[]∨p.any=false then .error ⟨s.length,110⟩
  else .ok (none,p)
def eventS (s:List UInt8) (p:Pst):Except Wrong (Option (Ev × Nat) × Pst):=
 if p.i=0∧declS s≠0 then
  (if declS s<0 then .error ⟨0,5⟩else eventF (s.length+1) s { p with i:=(declS s).toNat })
 else eventF (s.length+1) s p
structure Par where
 p:Pst
 last:Pos
 seen:Pos
 e:Nat
def nextS (s:List UInt8) (q:Par):(Ev × Bool × Nat) × Par:=
 if q.e≠0 then((noEv,false,q.e),q)
 else match q.p.empty with
  | some x=>((x,true,0),{ q with p:={ q.p with empty:=none } })
  | none=>match eventS s q.p with
   | .error w=>
    let y:=findS s w.at_ q.seen
    ((noEv,false,w.e),{ q with last:=y,seen:=y,e:=w.e })
   | .ok (none,p)=>
    let y:=findS s p.i q.seen
    ((noEv,false,0),{ q with p:=p,last:=y,seen:=y })
   | .ok (some (x,from_),p)=>
    let y:=findS s from_ q.seen
    let z:=findS s p.i y
    (({ x with line:=y.2.1,col:=y.2.2 },true,0),{ q with p:={ p with empty:=p.empty.map fun z=>{ z with line:=y.2.1,col:=y.2.2 } },last:=z,seen:=z })
theorem untilN_ge (s:List UInt8) (i:Nat) (st:List UInt8):i≤untilN s i st:=by unfold untilN;omega
theorem untilN_le {s:List UInt8} {i:Nat} (st:List UInt8) (h:i≤s.length):untilN s i st≤s.length:=by
 unfold untilN
 have:=(List.takeWhile_sublist (fun c => !isW c&&decide (Lib.indexByte st c<0)) (l:=s.drop i)).length_le
 simp only[List.length_drop]at this
 omega
theorem skipN_ge (s:List UInt8) (i:Nat):i≤skipN s i:=by unfold skipN;omega
theorem skipN_le {s:List UInt8} {i:Nat} (h:i≤s.length):skipN s i≤s.length:=by
 unfold skipN
 have:=(List.takeWhile_sublist isW (l:=s.drop i)).length_le
 simp only[List.length_drop]at this
 omega
theorem textF_fuel:∀(f g:Nat) (l:List UInt8),l.length≤f→l.length≤g→textF f l=textF g l
 | 0,0,_,_,_=>rfl
 | 0,g+1,l,h,_=>by rw[List.length_eq_zero_iff.1 (Nat.le_zero.1 h)];rfl
 | f+1,0,l,_,h=>by rw[List.length_eq_zero_iff.1 (Nat.le_zero.1 h)];rfl
 | f+1,g+1,[],_,_=>rfl
 | f+1,g+1,b::l,hf,hg=>by
  have h1:=dec_pos (l:=b::l) (by simp)
  simp only[textF]
  rw[textF_fuel f g _ (by simp only[List.length_drop,List.length_cons]at *;omega) (by simp only[List.length_drop,List.length_cons]at *;omega)]
theorem partF_fuel:∀(f g:Nat) (b:Bool) (l:List UInt8),l.length≤f→l.length≤g→partF f b l=partF g b l
 | 0,0,_,_,_,_=>rfl
 | 0,g+1,_,l,h,_=>by rw[List.length_eq_zero_iff.1 (Nat.le_zero.1 h)];rfl
 | f+1,0,_,l,_,h=>by rw[List.length_eq_zero_iff.1 (Nat.le_zero.1 h)];rfl
 | f+1,g+1,_,[],_,_=>rfl
 | f+1,g+1,_,b::l,hf,hg=>by
  have h1:=dec_pos (l:=b::l) (by simp)
  simp only[partF]
  rw[partF_fuel f g _ _ (by simp only[List.length_drop,List.length_cons]at *;omega) (by simp only[List.length_drop,List.length_cons]at *;omega)]
theorem countF_fuel:∀(f g:Nat) (l:List UInt8),l.length≤f→l.length≤g→countF f l=countF g l
 | 0,0,_,_,_=>rfl
 | 0,g+1,l,h,_=>by rw[List.length_eq_zero_iff.1 (Nat.le_zero.1 h)];rfl
 | f+1,0,l,_,h=>by rw[List.length_eq_zero_iff.1 (Nat.le_zero.1 h)];rfl
 | f+1,g+1,[],_,_=>rfl
 | f+1,g+1,b::l,hf,hg=>by
  have h1:=dec_pos (l:=b::l) (by simp)
  simp only[countF]
  rw[countF_fuel f g _ (by simp only[List.length_drop,List.length_cons]at *;omega) (by simp only[List.length_drop,List.length_cons]at *;omega)]
theorem cons_of {l:List UInt8} (h:l≠[]):∃b t,l=b::t:=by
 cases l with
 | nil=>exact absurd rfl h
 | cons b t=>exact⟨b,t,rfl⟩
theorem isTextS_step {l:List UInt8} (h:l≠[]):isTextS l=(headTextS l&&isTextS (l.drop (dec l).2)):=by
 obtain⟨b,t,rfl⟩:=cons_of h
 have h1:=dec_pos (l:=b::t) (by simp)
 unfold isTextS
 rw[List.length_cons]
 simp only[textF]
 rw[textF_fuel t.length _ _ (by simp only[List.length_drop,List.length_cons];omega) (Nat.le_refl _)]
theorem isTextS_nil:isTextS []=true:=rfl
def partL (first:Bool) (l:List UInt8):Bool:=partF l.length first l
theorem partL_step {l:List UInt8} (first:Bool) (h:l≠[]):partL first l=(partChar first (dec l).1&&partL false (l.drop (dec l).2)):=by
 obtain⟨b,t,rfl⟩:=cons_of h
 have h1:=dec_pos (l:=b::t) (by simp)
 unfold partL
 rw[List.length_cons]
 simp only[partF]
 rw[partF_fuel t.length _ _ _ (by simp only[List.length_drop,List.length_cons];omega) (Nat.le_refl _)]
theorem partL_nil (b:Bool):partL b []=true:=rfl
theorem countS_step {l:List UInt8} (h:l≠[]):countS l=1+countS (l.drop (dec l).2):=by
 obtain⟨b,t,rfl⟩:=cons_of h
 have h1:=dec_pos (l:=b::t) (by simp)
 unfold countS
 rw[List.length_cons]
 simp only[countF]
 rw[countF_fuel t.length _ _ (by simp only[List.length_drop,List.length_cons];omega) (Nat.le_refl _)]
theorem countS_nil:countS []=0:=rfl
end Go.Ab
namespace Go.Ab
open Go Go.Lib
theorem cut_found {s p:List UInt8} (h:(Lib.cut s p).2.2=true):(Lib.cut s p).1.length+p.length≤s.length∧(Lib.cut s p).2.1.length+(Lib.cut s p).1.length+p.length=s.length:=by
 unfold Lib.cut at h ⊢
 split at h
 ·rename_i h0
  have hr:=Lib.index_room s p h0
  rw[if_pos h0]
  simp only[List.length_take,List.length_drop]
  omega
 ·simp at h
theorem cdataS_bound {s:List UInt8} {i:Nat} (h:(cdataS s i).2.2=true):i+12≤(cdataS s i).2.1∧(cdataS s i).2.1≤s.length:=by
 unfold cdataS at h ⊢
 split at h
 ·rename_i h0
  rw[if_pos h0]
  have:=(cut_found h).1
  have hp:=hasPrefix_len h0
  simp only[sCdata,sCend,List.length_cons,List.length_nil,List.length_drop]at *
  omega
 ·simp at h
theorem commentS_bound {s:List UInt8} {i:Nat} (h:(commentS s i).2.2=true):i+7≤(commentS s i).2.1∧(commentS s i).2.1≤s.length:=by
 unfold commentS at h ⊢
 split at h
 ·rename_i h0
  rw[if_pos h0]
  simp only[Bool.and_eq_true]at h
  have h1:=cut_found h.1
  have h2:=hasPrefix_len h.2
  have hp:=hasPrefix_len h0
  simp only[sCom,sDash,List.length_cons,List.length_nil,List.length_drop]at *
  omega
 ·simp at h
theorem index_bound {s p:List UInt8} (h:0≤Lib.index s p):(Lib.index s p).toNat+p.length≤s.length:=by
 have:=Lib.index_room s p h
 omega
theorem instrS_bound {s:List UInt8} {i:Nat} (h:(instrS s i).2.2.2=true):i+4≤(instrS s i).2.2.1∧(instrS s i).2.2.1≤s.length:=by
 unfold instrS at h ⊢
 split at h
 case isFalse=>simp at h
 rename_i h0
 rw[if_pos h0]
 simp only at h ⊢
 split at h
 case isFalse=>simp at h
 rename_i h1
 rw[if_pos h1]
 split at h
 case isTrue=>simp at h
 rename_i h2
 rw[if_neg h2]
 simp only
 have hp:=hasPrefix_len h0
 simp only[List.length_cons,List.length_nil,List.length_drop]at hp
 have a1:=untilN_ge s (i+2) [63]
 have a2:=untilN_le (s:=s) (i:=i+2) [63] (by omega)
 have a3:=skipN_ge s (untilN s (i+2) [63])
 have a4:=skipN_le a2
 have h3:=index_bound (s:=s.drop (skipN s (untilN s (i+2) [63]))) (p:=[63,62]) (by omega)
 simp only[List.length_cons,List.length_nil,List.length_drop]at h3
 omega
theorem endS_bound {s:List UInt8} {i:Nat} (h:(endS s i).2.2=true):i+3≤(endS s i).2.1∧(endS s i).2.1≤s.length:=by
 unfold endS at h ⊢
 split at h
 case isFalse=>simp at h
 rename_i h0
 rw[if_pos h0]
 simp only[Bool.and_eq_true]at h ⊢
 have hp:=hasPrefix_len h0
 have hq:=hasPrefix_len h.2
 simp only[List.length_cons,List.length_nil,List.length_drop]at hp hq
 have a1:=untilN_ge s (i+2) [62]
 have a3:=skipN_ge s (untilN s (i+2) [62])
 omega
theorem indexByte_bound:∀{s:List UInt8} {c:UInt8},0≤Lib.indexByte s c→(Lib.indexByte s c).toNat<s.length
 | [],c,h=>by simp[Lib.indexByte]at h
 | b::l,c,h=>by
  have ih:=indexByte_bound (s:=l) (c:=c)
  simp only[Lib.indexByte]at h ⊢
  split
  ·simp
  ·rename_i hb
   rw[if_neg hb]at h
   split at h
   ·omega
   ·rename_i h1
    rw[if_neg h1]
    have:=Lib.indexByte_ge l c
    simp only[beq_iff_eq]at h1
    have:=ih (by omega)
    simp only[List.length_cons]
    omega
theorem attrS_bound {s:List UInt8} {i:Nat} (hi:i≤s.length) (h:(attrS s i).2.2=true):i+3≤(attrS s i).2.1∧(attrS s i).2.1≤s.length:=by
 unfold attrS at h ⊢
 simp only at h ⊢
 split at h
 case isFalse=>simp at h
 rename_i h1
 rw[if_pos h1]
 split at h
 case isFalse=>simp at h
 rename_i h2
 rw[if_pos h2]
 split at h
 case isTrue=>simp at h
 rename_i h3
 rw[if_neg h3]
 simp only
 have a1:=untilN_ge s i [61]
 have a3:=skipN_ge s (untilN s i [61])
 have a4:=skipN_ge s (skipN s (untilN s i [61])+1)
 have hb:=indexByte_bound (Int.not_lt.1 h3)
 simp only[List.length_drop]at hb
 omega
theorem tagF_bound {s:List UInt8}:∀(f k:Nat) (l:List (List UInt8 × List UInt8)) (x),k≤s.length→tagF f s k l=some x→k+1≤x.2.2∧x.2.2≤s.length∧(x.2.1=true→k+2≤x.2.2)
 | 0,_,_,_,_,h=>by simp[tagF]at h
 | f+1,k,l,x,hk,h=>by
  simp only[tagF]at h
  have a:=skipN_ge s k
  split at h
  ·rename_i h1
   have:=hasPrefix_len h1
   simp only[List.length_cons,List.length_nil,List.length_drop]at this
   cases h
   simp only
   refine⟨by omega,by omega,by simp⟩
  split at h
  ·rename_i h1
   have:=hasPrefix_len h1
   simp only[List.length_cons,List.length_nil,List.length_drop]at this
   cases h
   simp only
   omega
  split at h
  ·cases h
  split at h
  ·rename_i hr
   have:=attrS_bound (skipN_le hk) hr
   have:=tagF_bound f _ _ _ (by omega) h
   omega
  ·cases h
theorem startS_bound {s:List UInt8} {i:Nat} (hi:i<s.length) {t:Tag} (h:startS s i=some t):i+2≤t.next∧t.next≤s.length∧(t.empty=true→i+3≤t.next):=by
 unfold startS at h
 simp only at h
 split at h
 ·rename_i hn
  cases hx:tagF (s.length+1) s (untilN s (i+1) [47,62]) []with
  | none=>rw[hx]at h;cases h
  | some x=>
   rw[hx]at h
   simp only[Option.map_some,Option.some.injEq]at h
   subst h
   have a1:=untilN_ge s (i+1) [47,62]
   have a2:=untilN_le (s:=s) (i:=i+1) [47,62] (by omega)
   have:=tagF_bound _ _ _ _ a2 hx
   exact⟨by simp only;omega,by simp only;omega,fun he=>by have:=this.2.2 he;simp only;omega⟩
 ·cases h
def rowEnd (s:List UInt8) (i:Nat):Nat:=if 0<Lib.indexByte (s.drop i) 60 then i+(Lib.indexByte (s.drop i) 60).toNat else s.length
theorem rowEnd_bound {s:List UInt8} {i:Nat} (h:i<s.length):i<rowEnd s i∧rowEnd s i≤s.length:=by
 unfold rowEnd
 split
 ·have:=indexByte_bound (s:=s.drop i) (c:=60) (by omega)
  simp only[List.length_drop]at this
  omega
 ·omega
end Go.Ab
namespace Go.Ab
open Go Go.Lib
theorem rowF_bound {s:List UInt8} {top:Bool}:∀(f i:Nat) (acc:List UInt8) (is:Bool) (x),i≤s.length→rowF f top s i acc is = .ok x→i≤x.2.2∧x.2.2≤s.length∧(x.2.1=true→is=true∨i+1≤x.2.2)
 | 0,i,acc,is,x,hi,h=>by
  simp only[rowF,Except.ok.injEq]at h
  subst h
  exact⟨Nat.le_refl _,hi,fun h => .inl h⟩
 | f+1,i,acc,is,x,hi,h=>by
  simp only[rowF]at h
  split at h
  case isFalse=>cases h;exact⟨Nat.le_refl _,hi,fun h => .inl h⟩
  rename_i hl
  split at h
  ·rename_i hc
   have:=cdataS_bound hc
   split at h
   ·cases h
   ·have:=rowF_bound f _ _ _ _ (by omega) h
    exact⟨by omega,this.2.1,fun _ => .inr (by omega)⟩
  split at h
  ·cases h;exact⟨Nat.le_refl _,hi,fun h => .inl h⟩
  ·have hb:i<rowEnd s i∧rowEnd s i≤s.length:=rowEnd_bound hl
   change(match ptextS top (s.take (rowEnd s i)) i acc with | .error w=>Except.error w | .ok acc'=>rowF f top s (rowEnd s i) acc' true) = .ok x at h
   split at h
   ·cases h
   ·have:=rowF_bound f _ _ _ _ (by omega) h
    exact⟨by omega,this.2.1,fun _ => .inr (by omega)⟩
theorem rowS_bound {s:List UInt8} {top:Bool} {i:Nat} {x} (hi:i≤s.length) (h:rowS top s i = .ok x):i≤x.2.2∧x.2.2≤s.length∧(x.2.1=true→i+1≤x.2.2):=by
 have:=rowF_bound _ _ _ _ _ hi h
 simpa using this
theorem pieceS_bound {s:List UInt8} {p:Pst} {x:Ev × Pst} (hi:p.i<s.length) (h:pieceS s p = .ok x):p.i+2≤x.2.i∧x.2.i≤s.length∧(x.2.empty=p.empty∨p.i+3≤x.2.i):=by
 unfold pieceS at h
 split at h
 ·rename_i hc
  have:=commentS_bound hc
  cases h
  simp only
  omega
 split at h
 ·rename_i hc
  have:=instrS_bound hc
  cases h
  simp only
  omega
 split at h
 ·rename_i hc
  have:=endS_bound hc
  split at h
  ·cases h
   simp only
   omega
  ·cases h
 split at h
 ·cases h
 ·rename_i t ht
  have:=startS_bound hi ht
  split at h
  ·cases h
  split at h
  ·cases h
  split at h
  ·cases h
  cases h
  simp only
  split<;>rename_i he<;>simp[he]at this ⊢<;>omega
def EvOk (s:List UInt8) (p:Pst) (r:Option (Ev × Nat) × Pst):Prop:=
 p.i≤r.2.i∧r.2.i≤s.length∧(r.1=none→r.2.empty=p.empty)∧∀x,r.1=some x→p.i<r.2.i∧p.i≤x.2∧x.2<r.2.i∧(r.2.empty=p.empty∨p.i+3≤r.2.i)
theorem eventF_bound {s:List UInt8}:∀(f:Nat) (p:Pst) (r),p.i≤s.length→eventF f s p = .ok r→EvOk s p r
 | 0,p,r,hi,h=>by
  simp only[eventF,Except.ok.injEq]at h
  subst h
  exact⟨Nat.le_refl _,hi,fun _=>rfl,fun x hx=>by simp at hx⟩
 | f+1,p,r,hi,h=>by
  simp only[eventF]at h
  split at h
  ·rename_i hl
   split at h
   ·cases h
   ·rename_i row is j hr
    have hb:=rowS_bound (Nat.le_of_lt hl) hr
    simp only at hb
    split at h
    ·rename_i his
     have hb2:=hb.2.2 his
     split at h
     ·have:=eventF_bound f _ _ (by simp only;omega) h
      obtain⟨a,b,c,d⟩:=this
      simp only at a b c d
      exact⟨by omega,b,c,fun x hx=>by
       have:=d x hx
       refine⟨by omega,by omega,by omega,?_⟩
       rcases this.2.2.2 with h | h
       ·exact .inl h
       ·exact .inr (by omega)⟩
     ·cases h
      refine⟨by simp only;omega,by simp only;omega,fun _=>rfl,fun x hx=>?_⟩
      simp only[Option.some.injEq]at hx
      subst hx
      refine⟨?_,?_,?_,.inl rfl⟩<;>simp only<;>omega
    ·split at h
     ·cases h
     ·rename_i x q hp
      have:=pieceS_bound hl hp
      simp only at this
      cases h
      refine⟨by simp only;omega,by simp only;omega,fun hx=>by simp at hx,fun y hy=>?_⟩
      simp only[Option.some.injEq]at hy
      subst hy
      simp only
      refine⟨by omega,by omega,by omega,this.2.2⟩
  split at h
  ·cases h
  ·cases h
   exact⟨Nat.le_refl _,hi,fun _=>rfl,fun x hx=>by simp at hx⟩
theorem declS_bound {s:List UInt8} (h0:0≤declS s):(declS s).toNat≤s.length:=by
 unfold declS at h0 ⊢
 split
 ·rename_i h
  rw[if_pos h]at h0
  split
  ·rename_i hi
   have:=index_bound hi
   have hp:=hasPrefix_len h.1
   simp only[sXml,List.length_cons,List.length_nil,List.length_drop]at *
   omega
  ·simp
 ·simp
theorem eventS_bound {s:List UInt8} {p:Pst} {r} (hi:p.i≤s.length) (h:eventS s p = .ok r):EvOk s p r:=by
 unfold eventS at h
 split at h
 ·rename_i hd
  split at h
  ·cases h
  ·have hb:=declS_bound (s:=s) (by omega)
   obtain⟨a,b,c,d⟩:=eventF_bound _ _ _ (by simp only;omega) h
   simp only at a b c d
   exact⟨by omega,b,c,fun x hx=>by
    have:=d x hx
    refine⟨by omega,by omega,by omega,?_⟩
    rcases this.2.2.2 with h | h
    ·exact .inl h
    ·exact .inr (by omega)⟩
 ·exact eventF_bound _ _ _ hi h
end Go.Ab
