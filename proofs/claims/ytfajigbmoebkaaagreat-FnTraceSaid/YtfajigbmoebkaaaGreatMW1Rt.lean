/- Plain laws of the Lean functions. -/
import Derived.Test.YtfajigbmoebkaaaGreatMW1Cm

namespace Go.Sx
set_option linter.unusedVariables false
set_option linter.unusedSimpArgs false
abbrev RM:=Int × Int × Int × Int × List Int
abbrev Wr:=Int × Int × List Rw
abbrev Pg:=List Opn × List (List Opn)
abbrev Ac:=Int × Int × Int
abbrev Sc:=(List Int × List Int × Int) × List Pg × List Ac
structure Rt where
 phase:Int:=0
 tries:Int:=0
 spare:Int:=0
 pc:Int:=0
 rv:Int:=0
 newRv:Int:=0
 pos:Int:=0
 fate:Int:=0
 stamp:Int:=0
 began:Int:=0
 ended:Int:=0
 doomed:Bool:=false
 regs:List Int:=[]
 reads:List Rw:=[]
 writes:List Rw:=[]
 marks:List RM:=[]
 undos:List Un:=[]
 order:List Int:=[]
 busy:Bool:=false
 pb:Pb:=(0,0,0,0)
 cm:Cm:={}
 fam:Fm:={}
def Rt.e (r:Rt):Y_Root:=(r.phase,r.tries,r.spare,r.pc,r.rv,r.newRv,r.pos,r.fate,r.stamp,r.began,r.ended,r.doomed,r.regs,r.reads,r.writes,r.marks,r.undos,r.order,r.busy,r.pb,r.cm.e,r.fam.e)
structure Wo where
 now:Int:=0
 token:Int:=0
 mem:Mm:=(0,[])
 shelf:Shf:=([],0)
 holds:List Hd:=[]
 roots:List Rt:=[]
 hist:List Wr:=[]
def Wo.e (w:Wo):Y_World:=(w.now,w.token,w.mem,w.shelf,w.holds,w.roots.map Rt.e,w.hist)
def zRM:RM:=(0,0,0,0,[])
def Rt.last (x:Rt):RM:=Woy x.marks zRM
def Wup (x:Rt):Rt:={ phase:=6,tries:=x.tries,undos:=x.undos }
def Wgk (x:Rt):Rt :=
 if x.marks.length = 0 ∨ x.spare = 2 then Wup x else { x with spare:=x.spare + 1,busy:=false,pb:=(0,0,0,0),phase:=3 }
def Wsa (w:Wo) (x:Rt):Wo × Rt:=({ w with shelf:=Wqo w.shelf (Woy x.undos (0,0,0)) },{ x with undos:=x.undos.dropLast })
def rEnd (w:Wo) (x:Rt) (k:Nat):Wo × Rt :=
 ({ w with token:=if w.token = (k:Int) + 1 then 0 else w.token },{ x with phase:=8,ended:=w.now,undos:=[],doomed:=false })
def Wsq (w:Wo) (x:Rt) (k:Nat) (out:Int):Wo × Rt :=
 let rows:=if out = 2 then [] else x.writes
 if rows.length = 0 ∧ (Wqt w.holds ((k:Int) + 1)).length = 0 then rEnd w { x with fate:=out,stamp:=x.rv } k
 else (w,{ x with fate:=out,cm:=Wpt ((k:Int) + 1) x.rv rows x.reads,phase:=5 })
def rRead (w:Wo) (x:Rt) (o:Opn):Rt :=
 match Wfe x.writes o.2.2.1 with
 | some v=>{ x with regs:=setI x.regs o.2.1 v,pc:=x.pc + 1 }
 | none =>
  let p:=Wcs w.mem x.rv (if x.busy then x.pb else (o.2.2.1,0,0,0))
  if p.2.1 = 4 then Wgk { x with busy:=true,pb:=p }
  else if p.2.1 = 3 then { x with regs:=setI x.regs o.2.1 p.2.2.2,reads:=x.reads ++ [(o.2.2.1,p.2.2.2)],busy:=false,pb:=(0,0,0,0),pc:=x.pc + 1 }
  else { x with busy:=true,pb:=p }
def rAbort (w:Wo) (x:Rt) (k:Nat) (code:List Opn):Wo × Rt :=
 if x.marks.length = 0 then Wsq w x k 2 else
 if (x.undos.length:Int) > x.last.2.2.2.1 then Wsa w x else
 (w,{ x with marks:=x.marks.dropLast,regs:=setI x.last.2.2.2.2 (opN code x.last.1).2.1 0,writes:=x.writes.take x.last.2.2.1.toNat,pc:=Wsd code x.last.1.toNat + 1 })
def Wue (w:Wo) (x:Rt) (k:Nat) (o:Opn):Wo × Rt :=
 match Wle w.holds ((k:Int) + 1) (Whi o).1 (Whi o).2 with
 | none=>(w,Wgk x)
 | some hs =>
  let b:=Wdr w.shelf o x.regs
  ({ w with holds:=hs,shelf:=b.1 },{ x with regs:=b.2.1,undos:=if b.2.2.1 = 0 then x.undos else x.undos ++ [b.2.2],pc:=x.pc + 1 })
def rRun (w:Wo) (x:Rt) (k:Nat) (p:Pg):Wo × Rt :=
 if x.pc ≥ p.1.length then Wsq w x k 1 else
 let o:=opN p.1 x.pc
 if o.1 = 5 then (w,rRead w x o) else
 if o.1 = 10 then rAbort w x k p.1 else
 if o.1 = 11 then (w,{ x with phase:=2,fam:=Wib x.rv x.regs x.writes p.2.length }) else
 if o.1 ≥ 12 then Wue w x k o else
 if o.1 = 6 then (w,{ x with writes:=x.writes ++ [(o.2.1,getI x.regs o.2.2.1 0)],pc:=x.pc + 1 }) else
 if o.1 = 7 then (w,{ x with pc:=(if getI x.regs o.2.1 0 = 0 then x.pc + o.2.2.1 else x.pc) + 1 }) else
 if o.1 = 8 then (w,{ x with marks:=x.marks ++ [(x.pc,(x.reads.length:Int),(x.writes.length:Int),(x.undos.length:Int),x.regs)],pc:=x.pc + 1 }) else
 if o.1 = 9 then (w,{ x with marks:=x.marks.dropLast,regs:=setI x.regs (opN p.1 x.last.1).2.1 1,pc:=x.pc + 1 }) else
 (w,{ x with regs:=calcF o x.regs,pc:=x.pc + 1 })
def Wgt (k:Nat):List Rt → Nat → Bool
 | [],_=>true
 | x :: l,i=>(decide (i = k) || (decide (x.phase = 0) || decide (x.phase = 8))) && Wgt k l (i + 1)
def Wuu (w:Wo) (x:Rt) (k:Nat):Wo × Rt :=
 if w.token ≠ 0 ∧ w.token ≠ (k:Int) + 1 then (w,x) else
 if x.tries ≥ 3 ∧ w.token = 0 then ({ w with token:=(k:Int) + 1 },x) else
 if w.token = (k:Int) + 1 ∧ Wgt k w.roots 0 = false then (w,x) else
 (w,{ phase:=1,tries:=x.tries,rv:=w.mem.1,began:=w.now,regs:=[0,0,0,0] })
def Wyb (x:Rt):Rt :=
 if x.fam.lost then Wup x else
 if Wkp x.fam then { x with regs:=Wqx x.fam,writes:=Wnv x.fam,reads:=x.reads ++ x.fam.reads,order:=x.fam.order,fam:={},phase:=1,pc:=x.pc + 1 }
 else x
def Wlk (w:Wo) (x:Rt):Wo × Rt :=
 if (x.undos.length:Int) > x.last.2.2.2.1 then Wsa w x else (w,{ x with newRv:=w.mem.1,pos:=0,phase:=4 })
def Wjh (w:Wo) (x:Rt):Rt :=
 if x.pos < x.last.2.1 then
  let c:=Wdm w.mem (getI x.reads x.pos (0,0)).1
  if c.2.2 ≠ 0 ∨ c.2.1 > x.rv then Wup x else { x with pos:=x.pos + 1 }
 else { x with rv:=x.newRv,newRv:=0,pos:=0,reads:=x.reads.take x.last.2.1.toNat,writes:=x.writes.take x.last.2.2.1.toNat,regs:=x.last.2.2.2.2,pc:=x.last.1 + 1,phase:=1 }
def cmDone (x:Rt):Rt :=
 if x.cm.phase = 8 then Wup x else
 if x.cm.phase = 6 then { x with stamp:=x.cm.wv,cm:={},phase:=if x.fate = 2 then 6 else 7 } else x
def Wij (w:Wo) (x:Rt) (k:Nat):Wo × Rt :=
 if x.doomed then (w,if (Wfh x.cm).phase = 8 then Wup x else { x with cm:=Wfh x.cm,doomed:=false }) else
 let q:=Wlp w.mem x.cm
 ({ w with mem:=q.1,hist:=if x.cm.phase ≤ 3 ∧ q.2.phase = 4 then w.hist ++ [(q.2.wv,(k:Int) + 1,q.2.puts)] else w.hist },cmDone { x with cm:=q.2 })
def Wur (w:Wo) (x:Rt) (k:Nat) (p:Pg):Wo × Rt :=
 if x.doomed = true ∧ 1 ≤ x.phase ∧ x.phase ≤ 4 then (w,Wup x) else
 if x.phase = 0 then Wuu w x k else
 if x.phase = 1 then rRun w x k p else
 if x.phase = 2 then (w,Wyb x) else
 if x.phase = 3 then Wlk w x else
 if x.phase = 4 then (w,Wjh w x) else
 if x.phase = 5 then Wij w x k else
 if x.phase = 6 then (if x.undos.length > 0 then Wsa w x else (w,{ x with phase:=7 })) else
 if x.phase = 7 then
  (if x.fate = 0 then ({ w with holds:=Waz w.holds ((k:Int) + 1) },{ tries:=x.tries + 1 })
   else rEnd { w with holds:=Waz w.holds ((k:Int) + 1) } x k)
 else (w,x)
def Wo.put (q:Wo × Rt) (k:Nat):Wo:={ q.1 with roots:=q.1.roots.set k q.2 }
def rt0:Rt:={}
def pg0:Pg:=([],[])
def wStep (w:Wo) (k:Nat) (p:Pg):Wo:=Wo.put (Wur w (w.roots.getD k rt0) k p) k
def wKid (w:Wo) (x:Rt) (k j:Nat) (p:Pg):Wo:=Wo.put (w,{ x with fam:=fStep w.mem x.fam j (p.2.getD j []) }) k
def wAct (s:Sc) (w0:Wo) (a:Ac):Wo :=
 let w:={ w0 with now:=w0.now + 1 }
 if 0 ≤ a.2.1 ∧ a.2.1 < w.roots.length then
  let k:=a.2.1.toNat
  let x:=w.roots.getD k rt0
  let p:=s.2.1.getD k pg0
  if a.1 = 1 then wStep w k p else
  if a.1 = 2 then (if x.phase = 2 ∧ 0 ≤ a.2.2 ∧ a.2.2 < p.2.length then wKid w x k a.2.2.toNat p else w) else
  if a.1 = 3 then (if (1 ≤ x.phase ∧ x.phase ≤ 4) ∨ (x.phase = 5 ∧ x.cm.phase ≤ 3) then Wo.put (w,{ x with doomed:=true }) k else w) else w
 else w
def wNew (s:Sc):Wo:={ mem:=memNew s.1.1,shelf:=(slFrom s.1.2.1,s.1.2.2),roots:=List.replicate s.2.1.length {} }
def Wfn (s:Sc):Wo:=s.2.2.foldl (wAct s) (wNew s)
structure RMk (code:List Opn) (pc:Nat) (marks:List RM) (rl wl ul:Nat):Prop where
 pcs:marks.map (·.1) = (stk code pc).map fun m:Nat=>(m:Int)
 each:∀ q ∈ marks,Vals 4 q.2.2.2.2 ∧ (0 ≤ q.2.1 ∧ q.2.1 ≤ q.1 + 72 * frk code q.1.toNat ∧ q.2.1 ≤ rl) ∧ (0 ≤ q.2.2.1 ∧ q.2.2.1 ≤ q.1 + 8 ∧ q.2.2.1 ≤ wl) ∧ 0 ≤ q.2.2.2.1 ∧ q.2.2.2.1 ≤ q.1 ∧ q.2.2.2.1 ≤ ul
 up:marks.Pairwise fun a b=>a.2.1 ≤ b.2.1 ∧ a.2.2.1 ≤ b.2.2.1 ∧ a.2.2.2.1 ≤ b.2.2.2.1
structure RLive (p:Pg) (n:Int) (x:Rt):Prop where
 pc:0 ≤ x.pc ∧ x.pc ≤ p.1.length
 spare:0 ≤ x.spare ∧ x.spare ≤ 2
 rv:0 ≤ x.rv ∧ x.rv ≤ 1000000
 regs:Vals 4 x.regs
 reads:Rows x.reads
 rl:(x.reads.length:Int) ≤ x.pc + 72 * frk p.1 x.pc.toNat
 writes:Rows x.writes
 wl:(x.writes.length:Int) ≤ x.pc + 8
 ul:(x.undos.length:Int) ≤ x.pc
 marks:RMk p.1 x.pc.toNat x.marks x.reads.length x.writes.length x.undos.length
 pb:x.busy = true → pbOk x.pb = true
 fork:x.phase = 2 → x.pc < p.1.length ∧ (opN p.1 x.pc).1 = 11 ∧ FOk p.2 n x.fam
 back:x.phase = 3 ∨ x.phase = 4 → x.marks.length ≠ 0
 newRv:0 ≤ x.newRv ∧ x.newRv ≤ 1000000
 pos:x.phase = 4 → 0 ≤ x.pos ∧ x.pos ≤ x.last.2.1
 unw:x.phase = 4 → (x.undos.length:Int) ≤ x.last.2.2.2.1
structure ROk (p:Pg) (n:Int) (x:Rt):Prop where
 phase:0 ≤ x.phase ∧ x.phase ≤ 8
 tries:0 ≤ x.tries ∧ x.tries ≤ n
 live:1 ≤ x.phase ∧ x.phase ≤ 4 → RLive p n x
 comm:x.phase = 5 → CmOk x.cm
 undos:∀ u ∈ x.undos,UnV u
 ul:x.undos.length ≤ 24
 rg:x.regs.length ≤ 4
 ord:x.order.length ≤ 3
structure POk (p:Pg):Prop where
 code:CC p.1
 kids:∀ c ∈ p.2,KC c
 k3:p.2.length ≤ 3
def HE (h:Wr):Prop:=h.2.2.length ≤ 8 ∧ Rows h.2.2 ∧ 1 ≤ h.2.1 ∧ h.2.1 ≤ 9
structure WOk (ps:List Pg) (n:Int) (w:Wo):Prop where
 len:w.roots.length = ps.length
 l4:ps.length ≤ 4
 progs:∀ p ∈ ps,POk p
 now:w.now = n
 n0:0 ≤ n
 mem:Wbi w.mem = true
 shelf:ShOk w.shelf
 holds:HOk w.holds
 hist:(w.hist.length:Int) ≤ n
 histE:∀ h ∈ w.hist,HE h
 root:∀ (k:Nat) (h:k < w.roots.length),ROk (ps.getD k pg0) n w.roots[k]
end Go.Sx
