/- What reparse.HTML computes, on lists of bytes: its events, or its error. -/
import Derived.Test.YtojncnpmlhhccaaGreatDoorSpec
set_option linter.all false
namespace Go.Ab
open Go Go.Lib
def sDoct:List UInt8:=[60,33,68,79,67,84,89,80,69,32,104,116,109,108,62,10]
def lowB (c:UInt8):UInt8:=if 65≤c.toNat∧c.toNat≤90 then c+32 else c
def lowS (s:List UInt8):List UInt8:=s.map lowB
def isRawS (s:List UInt8):Bool:=lowS s==[115,99,114,105,112,116]||lowS s==[115,116,121,108,101]
def voidsS:List (List UInt8):=[[97,114,101,97],[98,97,115,101],[98,114],[99,111,108],[101,109,98,101,100],[104,114],[105,109,103],[105,110,112,117,116],[108,105,110,107],[109,101,116,97],[112,97,114,97,109],[115,111,117,114,99,101],[116,114,97,99,107],[119,98,114]]
def isVoidS (s:List UInt8):Bool:=voidsS.contains (lowS s)
def refHS (name:List UInt8):List UInt8 × Bool:=
 if(entityS name).2=true then((entityS name).1,true)
 else match numS name with
  | none=>([],false)
  | some n=>charS n
def unescF:Nat→List UInt8→List UInt8→List UInt8 × Bool
 | 0,_,acc=>(acc,true)
 | f+1,s,acc=>
  let x:=Lib.cut s [38]
  if x.2.2=true then
   let y:=Lib.cut x.2.1 [59]
   if y.2.2=true∧(refHS y.1).2=true then unescF f y.2.1 (acc++x.1++(refHS y.1).1)else([],false)
  else(acc++x.1,true)
def unescL (s acc:List UInt8):List UInt8 × Bool:=unescF (s.length+1) s acc
def unescS (s:List UInt8):List UInt8 × Bool:=unescL s []
def uptoS (s:List UInt8) (stop:List UInt8):Nat:=(s.takeWhile fun c => !stop.contains c).length
def attrHS (s:List UInt8):(List UInt8 × List UInt8) × Nat × Bool:=
 let n:=uptoS s [32,62,61]
 if isNameS (s.take n)=true then
  (if Lib.hasPrefix (s.drop n) [61,34]=true then
   let x:=Lib.cut (s.drop (n+2)) [34]
   if x.2.2=true∧Lib.contains x.1 [60]=false then((s.take n,(unescS x.1).1),n+2+x.1.length+1,(unescS x.1).2)
   else(([],[]),0,false)
  else((s.take n,s.take n),n,true))
 else(([],[]),0,false)
def tagHF:Nat→List UInt8→Nat→List (List UInt8 × List UInt8)→Bool→Option (Nat × List (List UInt8 × List UInt8) × Bool)
 | 0,_,_,_,_=>none
 | f+1,s,k,l,tw=>
  if Lib.hasPrefix (s.drop k) [32]=true then
   (if(attrHS (s.drop (k+1))).2.2=true then tagHF f s (k+1+(attrHS (s.drop (k+1))).2.1) (l++[(attrHS (s.drop (k+1))).1]) (tw||l.any fun a=>a.1==(attrHS (s.drop (k+1))).1.1)else none)
  else some (k,l,tw)
def tagHL (s:List UInt8) (k:Nat) (l:List (List UInt8 × List UInt8)) (tw:Bool):Option (Nat × List (List UInt8 × List UInt8) × Bool):=tagHF (s.length-k+1) s k l tw
def startHS (s:List UInt8):Option (Ev × Nat × Bool):=
 let k:=1+uptoS (s.drop 1) [32,62]
 if isNameS ((s.take k).drop 1)=true then
  match tagHL s k [] false with
  | none=>none
  | some (k2,l,tw)=>if Lib.hasPrefix (s.drop k2) [62]=true then some (⟨0,(s.take k).drop 1,[],l,0,0⟩,k2+1,tw)else none
 else none
def endHS (s:List UInt8):Option (List UInt8 × List UInt8):=
 let x:=Lib.cut (Lib.trimPrefix s [60,47]) [62]
 if Lib.hasPrefix s [60,47]=true∧x.2.2=true∧isNameS x.1=true then some (x.1,x.2.1)else none
def commentHS (s:List UInt8):Option (List UInt8 × List UInt8):=
 let x:=Lib.cut (Lib.trimPrefix s sCom) sDash
 if Lib.hasPrefix s sCom=true∧x.2.2=true∧Lib.hasPrefix x.2.1 [62]=true then some (x.1,x.2.1.drop 1)else none
def instrHS (s:List UInt8):Option (List UInt8 × List UInt8 × List UInt8):=
 let x:=Lib.cut (Lib.trimPrefix s [60,63]) [62]
 let y:=Lib.cut x.1 [32]
 if Lib.hasPrefix s [60,63]=true∧x.2.2=true∧isNameS y.1=true∧lowS y.1≠[120,109,108]∧¬(y.2.2=true∧(y.2.1=[]∨0≤Lib.indexByte [32,9,10,13] (y.2.1.getD 0 0)))then some (y.1,y.2.1,x.2.1)else none
structure HSt where
 s:List UInt8
 l:List Ev
 opens:List (List UInt8)
def rawNow (h:HSt):Bool:=match h.l.getLast? with
 | none=>false
 | some x=>x.kind==0&&isRawS x.name && !Lib.hasPrefix h.s [60,47]
def HSt.add (h:HSt) (kind:Nat) (name text:List UInt8) (rest:List UInt8):HSt:={ h with s:=rest,l:=h.l++[⟨kind,name,text,[],0,0⟩] }
def pieceHS (h:HSt):Except Nat HSt:=
 if rawNow h=true then
  (if Lib.index h.s [60,47]<0 then .error 5 else .ok (h.add 2 [] (h.s.take (Lib.index h.s [60,47]).toNat) (h.s.drop (Lib.index h.s [60,47]).toNat)))
 else if h.s.getD 0 0≠60 then
  (if(unescS (Lib.cut h.s [60]).1).2=true then .ok (h.add 2 [] (unescS (Lib.cut h.s [60]).1).1 (h.s.drop (Lib.cut h.s [60]).1.length))else .error 5)
 else match endHS h.s with
 | some (name,rest)=>if h.opens.getLast?=some name then .ok { h.add 1 name [] rest with opens:=h.opens.dropLast } else .error 110
 | none=>match commentHS h.s with
  | some (text,rest) => .ok (h.add 3 [] text rest)
  | none=>match instrHS h.s with
   | some (name,text,rest) => .ok (h.add 4 name text rest)
   | none=>match startHS h.s with
    | none => .error 5
    | some (x,k,tw)=>
     if tw=true then .error 4
     else if isVoidS x.name=true then .ok { h with s:=h.s.drop k,l:=h.l++[x,⟨1,x.name,[],[],0,0⟩] }
     else .ok { s:=h.s.drop k,l:=h.l++[x],opens:=h.opens++[x.name] }
def readHF:Nat→HSt→Except Nat (List Ev)
 | 0,h => .ok h.l
 | f+1,h=>if h.s=[]then(if h.opens=[]then .ok h.l else .error 110)else match pieceHS h with
  | .error e => .error e
  | .ok h'=>readHF f h'
def readHL (h:HSt):Except Nat (List Ev):=readHF (h.s.length+1) h
def eventsHS (text:List UInt8):Except Nat (List Ev):=readHL ⟨Lib.trimPrefix text sDoct,[],[]⟩
end Go.Ab
