/- Plain laws of the Lean functions. -/
import Derived.Test.YtfajigbmoebkaaaGreatMW1Srt

namespace Go.Sx
set_option linter.unusedVariables false
set_option linter.unusedSimpArgs false
abbrev KM:=Int × Int × List Int
structure Kd where
 phase:Int:=0
 pc:Int:=0
 since:Int:=0
 tries:Int:=0
 pos:Int:=0
 out:Int:=0
 regs:List Int:=[]
 seen:List En:=[]
 writes:List Rw:=[]
 marks:List KM:=[]
 busy:Bool:=false
 pb:Pb:=(0,0,0,0)
def Kd.e (x:Kd):Y_KidRun:=(x.phase,x.pc,x.since,x.tries,x.pos,x.out,x.regs,x.seen,x.writes,x.marks,x.busy,x.pb)
structure Fm where
 rv:Int:=0
 clock:Int:=0
 owner:Int:=0
 lost:Bool:=false
 regs:List Int:=[]
 start:List Rw:=[]
 buf:List En:=[]
 order:List Int:=[]
 reads:List Rw:=[]
 kids:List Kd:=[]
def Fm.e (f:Fm):Y_Family:=(f.rv,f.clock,f.owner,f.lost,f.regs,f.start,f.buf,f.order,f.reads,f.kids.map Kd.e)
def zOp:Opn:=(0,0,0,0)
def opN (code:List Opn) (i:Int):Opn:=List.getD code i.toNat zOp
def getI {α:Type} (l:List α) (i:Int) (d:α):α:=List.getD l i.toNat d
def setI {α:Type} (l:List α) (i:Int) (x:α):List α:=List.set l i.toNat x
def Woy {α:Type} (l:List α) (d:α):α:=List.getD l (l.length - 1) d
def Wsd (l:List Opn) (m:Nat):Nat:=((List.range l.length).find? fun k=>decide (m ≤ k) && decide (dep l (k + 1) = dep l m)).getD 0
def Fm.again (f:Fm) (x:Kd):Kd:={ since:=f.clock,tries:=x.tries + 1,regs:=f.regs }
def Wow (m:Mm) (f:Fm) (x:Kd) (o:Opn):Fm × Kd :=
 match Wfe x.writes o.2.2.1 with
 | some v=>(f,{ x with regs:=setI x.regs o.2.1 v,pc:=x.pc + 1 })
 | none=>match ent f.buf o.2.2.1 with
  | some r=>if r.2.2.2 > x.since then (f,f.again x) else (f,{ x with regs:=setI x.regs o.2.1 r.2.2.1,seen:=x.seen ++ [r.2],pc:=x.pc + 1 })
  | none =>
   let p:=Wcs m f.rv (if x.busy then x.pb else (o.2.2.1,0,0,0))
   if p.2.1 = 4 then ({ f with lost:=true },{ x with busy:=true,pb:=p })
   else if p.2.1 = 3 then (f,{ x with regs:=setI x.regs o.2.1 p.2.2.2,seen:=x.seen ++ [(o.2.2.1,p.2.2.2,-1)],busy:=false,pb:=(0,0,0,0),pc:=x.pc + 1 })
   else (f,{ x with busy:=true,pb:=p })
def Wxu (x:Kd) (code:List Opn):Kd :=
 if x.marks.length = 0 then { x with writes:=[],out:=2,phase:=1 } else
 let q:=Woy x.marks (0,0,[])
 { x with marks:=x.marks.dropLast,regs:=setI q.2.2 (opN code q.1).2.1 0,writes:=x.writes.take q.2.1.toNat,pc:=Wsd code q.1.toNat + 1 }
def kRun (m:Mm) (f:Fm) (x:Kd) (code:List Opn):Fm × Kd :=
 if x.pc ≥ code.length then (f,{ x with out:=1,phase:=1 }) else
 let o:=opN code x.pc
 if o.1 = 5 then Wow m f x o else
 if o.1 = 10 then (f,Wxu x code) else
 if o.1 = 6 then (f,{ x with writes:=x.writes ++ [(o.2.1,getI x.regs o.2.2.1 0)],pc:=x.pc + 1 }) else
 if o.1 = 7 then (f,{ x with pc:=(if getI x.regs o.2.1 0 = 0 then x.pc + o.2.2.1 else x.pc) + 1 }) else
 if o.1 = 8 then (f,{ x with marks:=x.marks ++ [(x.pc,(x.writes.length:Int),x.regs)],pc:=x.pc + 1 }) else
 if o.1 = 9 then (f,{ x with marks:=x.marks.dropLast,regs:=setI x.regs (opN code (Woy x.marks (0,0,[])).1).2.1 1,pc:=x.pc + 1 }) else
 (f,{ x with regs:=calcF o x.regs,pc:=x.pc + 1 })
def Whs (c:Int) (b:List En) (rows:List Rw):List En:=rows.foldl (fun b r=>Wlh cfE b (r.1,r.2,c)) b
def Wcm (l:List En):List Rw:=(l.filter fun e=>decide (e.2.2 = -1)).map fun e=>(e.1,e.2.1)
def kMerge (f:Fm) (x:Kd) (k:Nat):Fm × Kd :=
 ({ f with clock:=f.clock + 1,buf:=Whs (f.clock + 1) f.buf (netR x.writes),reads:=f.reads ++ Wcm x.seen,order:=f.order ++ [(k:Int)],owner:=0 },{ x with phase:=3,pos:=0,marks:=[] })
def entV (b:List En) (c:Int):Int:=match ent b c with
 | some r=>r.2.2.2
 | none=>-1
def kStep (m:Mm) (f:Fm) (x:Kd) (k:Nat) (code:List Opn):Fm × Kd :=
 if x.phase = 0 then kRun m f x code else
 if x.phase = 1 then (if f.owner = 0 then ({ f with owner:=(k:Int) + 1 },{ x with phase:=2 }) else (f,x)) else
 if x.phase = 2 then
  if x.pos = x.seen.length then kMerge f x k else
  let s:=getI x.seen x.pos (0,0,0)
  if entV f.buf s.1 = s.2.2 then (f,{ x with pos:=x.pos + 1 }) else ({ f with owner:=0 },f.again x)
 else (f,x)
def Fm.put (q:Fm × Kd) (k:Nat):Fm:={ q.1 with kids:=q.1.kids.set k q.2 }
def fStep (m:Mm) (f:Fm) (k:Nat) (code:List Opn):Fm :=
 if f.lost then f else Fm.put (kStep m f (f.kids.getD k {}) k code) k
def Wib (rv:Int) (regs:List Int) (writes:List Rw) (kids:Nat):Fm :=
 { rv:=rv,regs:=regs,start:=netR writes,buf:=(netR writes).map fun r=>(r.1,r.2,0),kids:=List.replicate kids { regs:=regs } }
def Wkp (f:Fm):Bool:=f.kids.all fun x=>decide (x.phase = 3)
def Wnv (f:Fm):List Rw:=f.buf.map fun e=>(e.1,e.2.1)
def kidReg (x:Kd):Int:=if x.out = 1 ∧ Wkd x.regs = true then getI x.regs 0 0 else 0
def Wqx (f:Fm):List Int :=
 if Wkd f.regs = true ∧ f.kids.length ≤ 3 then f.kids.map kidReg ++ f.regs.drop f.kids.length else []
structure KMk (code:List Opn) (pc:Nat) (marks:List KM) (wl:Nat):Prop where
 pcs:marks.map (·.1) = (stk code pc).map fun m:Nat=>(m:Int)
 each:∀ q ∈ marks,Vals 4 q.2.2 ∧ 0 ≤ q.2.1 ∧ q.2.1 ≤ q.1 ∧ q.2.1 ≤ wl
 up:marks.Pairwise fun a b=>a.2.1 ≤ b.2.1
structure KOk (code:List Opn) (c n:Int) (x:Kd):Prop where
 pc:0 ≤ x.pc ∧ x.pc ≤ code.length
 regs:Vals 4 x.regs
 rows:Rows x.writes
 wl:(x.writes.length:Int) ≤ x.pc
 sl:(x.seen.length:Int) ≤ x.pc
 since:0 ≤ x.since ∧ x.since ≤ c
 tries:0 ≤ x.tries ∧ x.tries ≤ n
 seen:∀ e ∈ x.seen,(0 ≤ e.1 ∧ e.1 ≤ 7) ∧ (0 ≤ e.2.1 ∧ e.2.1 ≤ 65535) ∧ -1 ≤ e.2.2 ∧ e.2.2 ≤ x.since
 marks:x.phase = 0 → KMk code x.pc.toNat x.marks x.writes.length
 pos:0 ≤ x.pos ∧ x.pos ≤ x.seen.length
 pb:x.busy = true → pbOk x.pb = true
 phase:0 ≤ x.phase ∧ x.phase ≤ 3
 out:0 ≤ x.out ∧ x.out ≤ 2
structure FOk (codes:List (List Opn)) (n:Int) (f:Fm):Prop where
 len:f.kids.length = codes.length
 regs:Vals 4 f.regs
 clock:0 ≤ f.clock ∧ f.clock = f.order.length
 done:f.order.length = f.kids.countP fun x=>decide (x.phase = 3)
 bufR:Ris cfE f.buf
 bufE:∀ e ∈ f.buf,(0 ≤ e.1 ∧ e.1 ≤ 7) ∧ (0 ≤ e.2.1 ∧ e.2.1 ≤ 65535) ∧ 0 ≤ e.2.2 ∧ e.2.2 ≤ f.clock
 readsL:f.reads.length ≤ 24 * f.order.length
 readsE:Rows f.reads
 owner:0 ≤ f.owner ∧ f.owner ≤ f.kids.length
 kid:∀ (k:Nat) (h:k < f.kids.length),KOk (codes.getD k []) f.clock n f.kids[k]
end Go.Sx
