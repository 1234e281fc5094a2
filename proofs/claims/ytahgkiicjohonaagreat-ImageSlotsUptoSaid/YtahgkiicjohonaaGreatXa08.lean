/- Parts of the proof, in build order. No condition. -/
import Derived.Test.YtahgkiicjohonaaGreatXa07
import Derived.Test.YtahgkiicjohonaaGreatXa06
import Derived.MapKept
import Derived.Test.YtahgkiicjohonaaGreatXa04
import Derived.Laws.StructEq
import Derived.Laws.Small
import Derived.ChangeKeysEq
import Derived.DeepKeys3
import Derived.Maps.Range
import Derived.Lib.Zigzag
import Derived.Lib.EndianBits
import Derived.Lib.Varint
set_option linter.unusedSimpArgs false
set_option linter.unusedVariables false
set_option maxHeartbeats 1000000
set_option maxRecDepth 20000
namespace Go.Proofs.YtahgkiicjohonaaGreat
open Go.RowKit Go.Lp Go.Sy
structure bk where
 obj : ByteArray
 sec : ByteArray
 kind : Int
 at_ : Int
 size : Int
 digest : ByteArray
 form : ByteArray
 deriving Inhabited
abbrev bk.row (x : bk) : List D := [.v (.string x.obj), .v (.string x.sec), .v (.int .i64 x.kind), .v (.int .i64 x.at_), .v (.int .i64 x.size), .v (.string x.digest), .v (.string x.form)]
abbrev bk.vs (x : bk) : List Value := [.string x.obj, .string x.sec, .int .i64 x.kind, .int .i64 x.at_, .int .i64 x.size, .string x.digest, .string x.form]
abbrev bk.val (x : bk) : Value := .agg #[.string x.obj, .string x.sec, .int .i64 x.kind, .int .i64 x.at_, .int .i64 x.size, .string x.digest, .string x.form]
def bk.ok (x : bk) : Per := cD (dY x.obj) (cD (dY x.sec) (cD (dY x.digest) (dY x.form)))
theorem bk.f_obj {ps : List Per} {x : bk} (h : Ent ps x.ok) : Ent ps (dY x.obj) := (Ent.left h)
theorem bk.f_sec {ps : List Per} {x : bk} (h : Ent ps x.ok) : Ent ps (dY x.sec) := (Ent.left (Ent.right h))
structure bN where
 name : ByteArray
 version : ByteArray
 main : Bool
 kind : Int
 at_ : Int
 size : Int
 deriving Inhabited
abbrev bN.row (x : bN) : List D := [.v (.string x.name), .v (.string x.version), .v (.bool x.main), .v (.int .i64 x.kind), .v (.int .i64 x.at_), .v (.int .i64 x.size)]
abbrev bN.vs (x : bN) : List Value := [.string x.name, .string x.version, .bool x.main, .int .i64 x.kind, .int .i64 x.at_, .int .i64 x.size]
abbrev bN.val (x : bN) : Value := .agg #[.string x.name, .string x.version, .bool x.main, .int .i64 x.kind, .int .i64 x.at_, .int .i64 x.size]
def bN.ok (x : bN) : Per := cD (dY x.name) (dY x.version)
theorem bN.f_name {ps : List Per} {x : bN} (h : Ent ps x.ok) : Ent ps (dY x.name) := (Ent.left h)
theorem bN.f_version {ps : List Per} {x : bN} (h : Ent ps x.ok) : Ent ps (dY x.version) := (Ent.right h)
structure bY where
 name : ByteArray
 version : ByteArray
 kind : Int
 weak : Bool
 own : Bool
 deriving Inhabited
abbrev bY.row (x : bY) : List D := [.v (.string x.name), .v (.string x.version), .v (.int .i64 x.kind), .v (.bool x.weak), .v (.bool x.own)]
abbrev bY.vs (x : bY) : List Value := [.string x.name, .string x.version, .int .i64 x.kind, .bool x.weak, .bool x.own]
abbrev bY.val (x : bY) : Value := .agg #[.string x.name, .string x.version, .int .i64 x.kind, .bool x.weak, .bool x.own]
def bY.ok (x : bY) : Per := cD (dY x.name) (dY x.version)
theorem bY.f_name {ps : List Per} {x : bY} (h : Ent ps x.ok) : Ent ps (dY x.name) := (Ent.left h)
theorem bY.f_version {ps : List Per} {x : bY} (h : Ent ps x.ok) : Ent ps (dY x.version) := (Ent.right h)
structure fm where
 at_ : Int
 kind : Int
 import_ : Int
 add : Int
 deriving Inhabited
abbrev fm.row (x : fm) : List D := [.v (.int .i64 x.at_), .v (.int .i64 x.kind), .v (.int .i64 x.import_), .v (.int .i64 x.add)]
abbrev fm.vs (x : fm) : List Value := [.int .i64 x.at_, .int .i64 x.kind, .int .i64 x.import_, .int .i64 x.add]
abbrev fm.val (x : fm) : Value := .agg #[.int .i64 x.at_, .int .i64 x.kind, .int .i64 x.import_, .int .i64 x.add]
structure dA where
 name : ByteArray
 kind : Int
 at_ : Int
 size : Int
 deriving Inhabited
abbrev dA.row (x : dA) : List D := [.v (.string x.name), .v (.int .i64 x.kind), .v (.int .i64 x.at_), .v (.int .i64 x.size)]
abbrev dA.vs (x : dA) : List Value := [.string x.name, .int .i64 x.kind, .int .i64 x.at_, .int .i64 x.size]
abbrev dA.val (x : dA) : Value := .agg #[.string x.name, .int .i64 x.kind, .int .i64 x.at_, .int .i64 x.size]
def dA.ok (x : dA) : Per := dY x.name
structure bE where
 at_ : Int
 size : Int
 deriving Inhabited
abbrev bE.row (x : bE) : List D := [.v (.int .i64 x.at_), .v (.int .i64 x.size)]
abbrev bE.vs (x : bE) : List Value := [.int .i64 x.at_, .int .i64 x.size]
abbrev bE.val (x : bE) : Value := .agg #[.int .i64 x.at_, .int .i64 x.size]
structure cA where
 marks : Sl dA
 lines : Sl du
 ends : Sl bE
 inlines : Sl b8
 vars : Sl eh
 depths : Sl cC
 deriving Inhabited
abbrev cA.row (x : cA) : List D := [.v (.slice x.marks.ad x.marks.l.length x.marks.cap), .v (.slice x.lines.ad x.lines.l.length x.lines.cap), .v (.slice x.ends.ad x.ends.l.length x.ends.cap), .v (.slice x.inlines.ad x.inlines.l.length x.inlines.cap), .v (.slice x.vars.ad x.vars.l.length x.vars.cap), .v (.slice x.depths.ad x.depths.l.length x.depths.cap)]
abbrev cA.vs (x : cA) : List Value := [.slice x.marks.ad x.marks.l.length x.marks.cap, .slice x.lines.ad x.lines.l.length x.lines.cap, .slice x.ends.ad x.ends.l.length x.ends.cap, .slice x.inlines.ad x.inlines.l.length x.inlines.cap, .slice x.vars.ad x.vars.l.length x.vars.cap, .slice x.depths.ad x.depths.l.length x.depths.cap]
abbrev cA.val (x : cA) : Value := .agg #[.slice x.marks.ad x.marks.l.length x.marks.cap, .slice x.lines.ad x.lines.l.length x.lines.cap, .slice x.ends.ad x.ends.l.length x.ends.cap, .slice x.inlines.ad x.inlines.l.length x.inlines.cap, .slice x.vars.ad x.vars.l.length x.vars.cap, .slice x.depths.ad x.depths.l.length x.depths.cap]
def cA.ok (x : cA) : Per := cD (ShF (dA.row) x.marks) (cD (b7 (fun y => dA.ok y) x.marks.l) (cD (ShF (du.row) x.lines) (cD (b7 (fun y => du.ok y) x.lines.l) (cD (ShF (bE.row) x.ends) (cD (ShF (b8.row) x.inlines) (cD (b7 (fun y => b8.ok y) x.inlines.l) (cD (ShF (eh.row) x.vars) (cD (b7 (fun y => eh.ok y) x.vars.l) (ShF (cC.row) x.depths)))))))))
theorem cA.f_marks {ps : List Per} {x : cA} (h : Ent ps x.ok) : Ent ps (ShF (dA.row) x.marks) := (Ent.left h)
theorem cA.f_lines {ps : List Per} {x : cA} (h : Ent ps x.ok) : Ent ps (ShF (du.row) x.lines) := (Ent.left (Ent.right (Ent.right h)))
theorem cA.f_ends {ps : List Per} {x : cA} (h : Ent ps x.ok) : Ent ps (ShF (bE.row) x.ends) := (Ent.left (Ent.right (Ent.right (Ent.right (Ent.right h)))))
theorem cA.f_inlines {ps : List Per} {x : cA} (h : Ent ps x.ok) : Ent ps (ShF (b8.row) x.inlines) := (Ent.left (Ent.right (Ent.right (Ent.right (Ent.right (Ent.right h))))))
theorem cA.f_vars {ps : List Per} {x : cA} (h : Ent ps x.ok) : Ent ps (ShF (eh.row) x.vars) := (Ent.left (Ent.right (Ent.right (Ent.right (Ent.right (Ent.right (Ent.right (Ent.right h))))))))
theorem cA.f_depths {ps : List Per} {x : cA} (h : Ent ps x.ok) : Ent ps (ShF (cC.row) x.depths) := (Ent.right (Ent.right (Ent.right (Ent.right (Ent.right (Ent.right (Ent.right (Ent.right (Ent.right h)))))))))
structure cr where
 obj : ByteArray
 sec : ByteArray
 from_ : ByteArray
 pieces : Sl dD
 code : Int
 deriving Inhabited
abbrev cr.row (x : cr) : List D := [.v (.string x.obj), .v (.string x.sec), .v (.string x.from_), .v (.slice x.pieces.ad x.pieces.l.length x.pieces.cap), .v (.int .i64 x.code)]
abbrev cr.vs (x : cr) : List Value := [.string x.obj, .string x.sec, .string x.from_, .slice x.pieces.ad x.pieces.l.length x.pieces.cap, .int .i64 x.code]
abbrev cr.val (x : cr) : Value := .agg #[.string x.obj, .string x.sec, .string x.from_, .slice x.pieces.ad x.pieces.l.length x.pieces.cap, .int .i64 x.code]
def cr.ok (x : cr) : Per := cD (dY x.obj) (cD (dY x.sec) (cD (dY x.from_) (ShF (dD.row) x.pieces)))
theorem cr.f_obj {ps : List Per} {x : cr} (h : Ent ps x.ok) : Ent ps (dY x.obj) := (Ent.left h)
theorem cr.f_sec {ps : List Per} {x : cr} (h : Ent ps x.ok) : Ent ps (dY x.sec) := (Ent.left (Ent.right h))
theorem cr.f_pieces {ps : List Per} {x : cr} (h : Ent ps x.ok) : Ent ps (ShF (dD.row) x.pieces) := (Ent.right (Ent.right (Ent.right h)))
structure ax where
 name : ByteArray
 lib : Bool
 code : Int
 data : Int
 zero : Int
 bytes : ByteArray
 tls : ByteArray
 block : Int
 nodes : Sl bk
 exports : Sl bN
 imports : Sl bY
 slots : Sl Int
 stubs : Sl Int
 dyns : Sl fm
 inits : Sl Int
 lasts : Sl Int
 entry : Int
 needs : Sl ByteArray
 versions : Sl aF
 info : cA
 changes : Sl cr
 deriving Inhabited
abbrev ax.row (x : ax) : List D := [.v (.string x.name), .v (.bool x.lib), .v (.int .i64 x.code), .v (.int .i64 x.data), .v (.int .i64 x.zero), .v (.string x.bytes), .v (.string x.tls), .v (.int .i64 x.block), .v (.slice x.nodes.ad x.nodes.l.length x.nodes.cap), .v (.slice x.exports.ad x.exports.l.length x.exports.cap), .v (.slice x.imports.ad x.imports.l.length x.imports.cap), .v (.slice x.slots.ad x.slots.l.length x.slots.cap), .v (.slice x.stubs.ad x.stubs.l.length x.stubs.cap), .v (.slice x.dyns.ad x.dyns.l.length x.dyns.cap), .v (.slice x.inits.ad x.inits.l.length x.inits.cap), .v (.slice x.lasts.ad x.lasts.l.length x.lasts.cap), .v (.int .i64 x.entry), .v (.slice x.needs.ad x.needs.l.length x.needs.cap), .v (.slice x.versions.ad x.versions.l.length x.versions.cap), .v (.slice x.info.marks.ad x.info.marks.l.length x.info.marks.cap), .v (.slice x.info.lines.ad x.info.lines.l.length x.info.lines.cap), .v (.slice x.info.ends.ad x.info.ends.l.length x.info.ends.cap), .v (.slice x.info.inlines.ad x.info.inlines.l.length x.info.inlines.cap), .v (.slice x.info.vars.ad x.info.vars.l.length x.info.vars.cap), .v (.slice x.info.depths.ad x.info.depths.l.length x.info.depths.cap), .v (.slice x.changes.ad x.changes.l.length x.changes.cap)]
abbrev ax.vs (x : ax) : List Value := [.string x.name, .bool x.lib, .int .i64 x.code, .int .i64 x.data, .int .i64 x.zero, .string x.bytes, .string x.tls, .int .i64 x.block, .slice x.nodes.ad x.nodes.l.length x.nodes.cap, .slice x.exports.ad x.exports.l.length x.exports.cap, .slice x.imports.ad x.imports.l.length x.imports.cap, .slice x.slots.ad x.slots.l.length x.slots.cap, .slice x.stubs.ad x.stubs.l.length x.stubs.cap, .slice x.dyns.ad x.dyns.l.length x.dyns.cap, .slice x.inits.ad x.inits.l.length x.inits.cap, .slice x.lasts.ad x.lasts.l.length x.lasts.cap, .int .i64 x.entry, .slice x.needs.ad x.needs.l.length x.needs.cap, .slice x.versions.ad x.versions.l.length x.versions.cap, .slice x.info.marks.ad x.info.marks.l.length x.info.marks.cap, .slice x.info.lines.ad x.info.lines.l.length x.info.lines.cap, .slice x.info.ends.ad x.info.ends.l.length x.info.ends.cap, .slice x.info.inlines.ad x.info.inlines.l.length x.info.inlines.cap, .slice x.info.vars.ad x.info.vars.l.length x.info.vars.cap, .slice x.info.depths.ad x.info.depths.l.length x.info.depths.cap, .slice x.changes.ad x.changes.l.length x.changes.cap]
abbrev ax.val (x : ax) : Value := .agg #[.string x.name, .bool x.lib, .int .i64 x.code, .int .i64 x.data, .int .i64 x.zero, .string x.bytes, .string x.tls, .int .i64 x.block, .slice x.nodes.ad x.nodes.l.length x.nodes.cap, .slice x.exports.ad x.exports.l.length x.exports.cap, .slice x.imports.ad x.imports.l.length x.imports.cap, .slice x.slots.ad x.slots.l.length x.slots.cap, .slice x.stubs.ad x.stubs.l.length x.stubs.cap, .slice x.dyns.ad x.dyns.l.length x.dyns.cap, .slice x.inits.ad x.inits.l.length x.inits.cap, .slice x.lasts.ad x.lasts.l.length x.lasts.cap, .int .i64 x.entry, .slice x.needs.ad x.needs.l.length x.needs.cap, .slice x.versions.ad x.versions.l.length x.versions.cap, .slice x.info.marks.ad x.info.marks.l.length x.info.marks.cap, .slice x.info.lines.ad x.info.lines.l.length x.info.lines.cap, .slice x.info.ends.ad x.info.ends.l.length x.info.ends.cap, .slice x.info.inlines.ad x.info.inlines.l.length x.info.inlines.cap, .slice x.info.vars.ad x.info.vars.l.length x.info.vars.cap, .slice x.info.depths.ad x.info.depths.l.length x.info.depths.cap, .slice x.changes.ad x.changes.l.length x.changes.cap]
def ax.ok (x : ax) : Per := cD (dY x.name) (cD (dY x.bytes) (cD (dY x.tls) (cD (ShF (bk.row) x.nodes) (cD (b7 (fun y => bk.ok y) x.nodes.l) (cD (ShF (bN.row) x.exports) (cD (b7 (fun y => bN.ok y) x.exports.l) (cD (ShF (bY.row) x.imports) (cD (b7 (fun y => bY.ok y) x.imports.l) (cD (ShF (fun z => [.v (.int .i64 z)]) x.slots) (cD (ShF (fun z => [.v (.int .i64 z)]) x.stubs) (cD (ShF (fm.row) x.dyns) (cD (ShF (fun z => [.v (.int .i64 z)]) x.inits) (cD (ShF (fun z => [.v (.int .i64 z)]) x.lasts) (cD (ShF (fun s => [.v (.string s)]) x.needs) (cD (b7 (fun y => dY y) x.needs.l) (cD (ShF (aF.row) x.versions) (cD (b7 (fun y => aF.ok y) x.versions.l) (cD (cA.ok x.info) (cD (ShF (cr.row) x.changes) (b7 (fun y => cr.ok y) x.changes.l))))))))))))))))))))
theorem ax.f_name {ps : List Per} {x : ax} (h : Ent ps x.ok) : Ent ps (dY x.name) := (Ent.left h)
theorem ax.f_nodes {ps : List Per} {x : ax} (h : Ent ps x.ok) : Ent ps (ShF (bk.row) x.nodes) := (Ent.left (Ent.right (Ent.right (Ent.right h))))
theorem ax.f_nodesA {ps : List Per} {x : ax} (h : Ent ps x.ok) : Ent ps (b7 (fun y => bk.ok y) x.nodes.l) := (Ent.left (Ent.right (Ent.right (Ent.right (Ent.right h)))))
theorem ax.f_exports {ps : List Per} {x : ax} (h : Ent ps x.ok) : Ent ps (ShF (bN.row) x.exports) := (Ent.left (Ent.right (Ent.right (Ent.right (Ent.right (Ent.right h))))))
theorem ax.f_exportsA {ps : List Per} {x : ax} (h : Ent ps x.ok) : Ent ps (b7 (fun y => bN.ok y) x.exports.l) := (Ent.left (Ent.right (Ent.right (Ent.right (Ent.right (Ent.right (Ent.right h)))))))
theorem ax.f_imports {ps : List Per} {x : ax} (h : Ent ps x.ok) : Ent ps (ShF (bY.row) x.imports) := (Ent.left (Ent.right (Ent.right (Ent.right (Ent.right (Ent.right (Ent.right (Ent.right h))))))))
theorem ax.f_importsA {ps : List Per} {x : ax} (h : Ent ps x.ok) : Ent ps (b7 (fun y => bY.ok y) x.imports.l) := (Ent.left (Ent.right (Ent.right (Ent.right (Ent.right (Ent.right (Ent.right (Ent.right (Ent.right h)))))))))
theorem ax.f_slots {ps : List Per} {x : ax} (h : Ent ps x.ok) : Ent ps (ShF (fun z => [.v (.int .i64 z)]) x.slots) := (Ent.left (Ent.right (Ent.right (Ent.right (Ent.right (Ent.right (Ent.right (Ent.right (Ent.right (Ent.right h))))))))))
theorem ax.f_stubs {ps : List Per} {x : ax} (h : Ent ps x.ok) : Ent ps (ShF (fun z => [.v (.int .i64 z)]) x.stubs) := (Ent.left (Ent.right (Ent.right (Ent.right (Ent.right (Ent.right (Ent.right (Ent.right (Ent.right (Ent.right (Ent.right h)))))))))))
theorem ax.f_dyns {ps : List Per} {x : ax} (h : Ent ps x.ok) : Ent ps (ShF (fm.row) x.dyns) := (Ent.left (Ent.right (Ent.right (Ent.right (Ent.right (Ent.right (Ent.right (Ent.right (Ent.right (Ent.right (Ent.right (Ent.right h))))))))))))
theorem ax.f_inits {ps : List Per} {x : ax} (h : Ent ps x.ok) : Ent ps (ShF (fun z => [.v (.int .i64 z)]) x.inits) := (Ent.left (Ent.right (Ent.right (Ent.right (Ent.right (Ent.right (Ent.right (Ent.right (Ent.right (Ent.right (Ent.right (Ent.right (Ent.right h)))))))))))))
theorem ax.f_lasts {ps : List Per} {x : ax} (h : Ent ps x.ok) : Ent ps (ShF (fun z => [.v (.int .i64 z)]) x.lasts) := (Ent.left (Ent.right (Ent.right (Ent.right (Ent.right (Ent.right (Ent.right (Ent.right (Ent.right (Ent.right (Ent.right (Ent.right (Ent.right (Ent.right h))))))))))))))
theorem ax.f_needs {ps : List Per} {x : ax} (h : Ent ps x.ok) : Ent ps (ShF (fun s => [.v (.string s)]) x.needs) := (Ent.left (Ent.right (Ent.right (Ent.right (Ent.right (Ent.right (Ent.right (Ent.right (Ent.right (Ent.right (Ent.right (Ent.right (Ent.right (Ent.right (Ent.right h)))))))))))))))
theorem ax.f_needsA {ps : List Per} {x : ax} (h : Ent ps x.ok) : Ent ps (b7 (fun y => dY y) x.needs.l) := (Ent.left (Ent.right (Ent.right (Ent.right (Ent.right (Ent.right (Ent.right (Ent.right (Ent.right (Ent.right (Ent.right (Ent.right (Ent.right (Ent.right (Ent.right (Ent.right h))))))))))))))))
theorem ax.f_versions {ps : List Per} {x : ax} (h : Ent ps x.ok) : Ent ps (ShF (aF.row) x.versions) := (Ent.left (Ent.right (Ent.right (Ent.right (Ent.right (Ent.right (Ent.right (Ent.right (Ent.right (Ent.right (Ent.right (Ent.right (Ent.right (Ent.right (Ent.right (Ent.right (Ent.right h)))))))))))))))))
theorem ax.f_versionsA {ps : List Per} {x : ax} (h : Ent ps x.ok) : Ent ps (b7 (fun y => aF.ok y) x.versions.l) := (Ent.left (Ent.right (Ent.right (Ent.right (Ent.right (Ent.right (Ent.right (Ent.right (Ent.right (Ent.right (Ent.right (Ent.right (Ent.right (Ent.right (Ent.right (Ent.right (Ent.right (Ent.right h))))))))))))))))))
theorem ax.f_info {ps : List Per} {x : ax} (h : Ent ps x.ok) : Ent ps (cA.ok x.info) := (Ent.left (Ent.right (Ent.right (Ent.right (Ent.right (Ent.right (Ent.right (Ent.right (Ent.right (Ent.right (Ent.right (Ent.right (Ent.right (Ent.right (Ent.right (Ent.right (Ent.right (Ent.right (Ent.right h)))))))))))))))))))
theorem ax.f_changes {ps : List Per} {x : ax} (h : Ent ps x.ok) : Ent ps (ShF (cr.row) x.changes) := (Ent.left (Ent.right (Ent.right (Ent.right (Ent.right (Ent.right (Ent.right (Ent.right (Ent.right (Ent.right (Ent.right (Ent.right (Ent.right (Ent.right (Ent.right (Ent.right (Ent.right (Ent.right (Ent.right (Ent.right h))))))))))))))))))))
theorem ax.f_changesA {ps : List Per} {x : ax} (h : Ent ps x.ok) : Ent ps (b7 (fun y => cr.ok y) x.changes.l) := (Ent.right (Ent.right (Ent.right (Ent.right (Ent.right (Ent.right (Ent.right (Ent.right (Ent.right (Ent.right (Ent.right (Ent.right (Ent.right (Ent.right (Ent.right (Ent.right (Ent.right (Ent.right (Ent.right (Ent.right h))))))))))))))))))))
structure wT where
 name : ByteArray
 exports : Sl bN
 versions : Sl aF
 deriving Inhabited
abbrev wT.val (x : wT) : Value := .agg #[.string x.name, .slice x.exports.ad x.exports.l.length x.exports.cap, .slice x.versions.ad x.versions.l.length x.versions.cap]
end Go.Proofs.YtahgkiicjohonaaGreat

namespace Go.Sy
open Go.RowKit Go.Lp Go.MapKept
structure gV {α : Type} (P : Program) (kt : TypeId) (κ : α → Value) : Prop where
 inj : ∀ a b, κ a = κ b → a = b
 check : ∀ (w : World) (em : Bool) (a : α), (Instr.checkKey em 10000 kt (κ a)).run P w = .ok () w
 find : ∀ (w : World) (x : α) (es : List MapEntry), (∀ e ∈ es, ∃ a, e.key = κ a) →
   ((Instr.findKey kt (κ x) es).run P w = .ok none w ∧ ∀ e ∈ es, e.key ≠ κ x) ∨ ∃ j e, (Instr.findKey kt (κ x) es).run P w = .ok (some (j, e.val)) w ∧ es[j]? = some e ∧ e.key = κ x
 stays : ∀ (w : World) (a : α), (Instr.keyThatStays (κ a) (κ a)).run P w = .ok (κ a) w
theorem od {α : Type} {P : Program} {kt : TypeId} {d : TypeDesc} {κ : α → Value} (hd : P.underlying kt = some d) (hk : ∀ a, IsKey d (κ a)) (inj : ∀ a b, κ a = κ b → a = b) : gV P kt κ where
 inj := inj
 check w em a := run_checkKey hd (hk a) em 9999
 find w x es hes := by
   rcases findNow_spec (hk x) es 0 (fun e he => by obtain ⟨a, ha⟩ := hes e he; rw [ha]; exact hk a) with ⟨h1, h2⟩ | ⟨j, e, h1, h2, h3⟩
   · exact .inl ⟨run_findKey hd h1, h2⟩
   · exact .inr ⟨j, e, by rw [Nat.zero_add] at h1; exact run_findKey hd h1, h2, h3⟩
 stays w a := run_keyThatStays (hk a)
theorem aea {P : Program} {kt : TypeId} (hd : P.underlying kt = some .string) : gV P kt (fun s : ByteArray => Value.string s) := od hd (fun _ => trivial) (fun _ _ h => by injection h)
theorem aec {P : Program} {kt : TypeId} (hd : P.underlying kt = some (.int .i64)) : gV P kt (fun z : Int => Value.int .i64 z) := od hd (fun _ => rfl) (fun _ _ h => by injection h)
section
variable {α β : Type}
structure uN (κ : α → Value) (ν : β → Value) (m : α → Option β) (es : List MapEntry) : Prop where
 of : ∀ e ∈ es, ∃ a v, e.key = κ a ∧ e.val = ν v ∧ m a = some v
 mem : ∀ a v, m a = some v → ∃ e ∈ es, e.key = κ a ∧ e.val = ν v
 apart : es.Pairwise fun e e' => e.key ≠ e'.key
def ft (b : Nat) (κ : α → Value) (ν : β → Value) (m : α → Option β) : Res :=
 ⟨fun w _ F => (∃ es clock, w.heap[b]? = some (.map es clock) ∧ uN κ ν m es.toList ∧ Stamped es clock) ∧ ∀ k, F k ↔ k = b, fun ⟨⟨es, clock, h, he⟩, hF⟩ h1 _ _ => ⟨⟨es, clock, (h1 b ((hF b).2 rfl)).trans h, he⟩, hF⟩⟩
def gU [DecidableEq α] (m : α → Option β) (k : α) (v : β) : α → Option β := fun a => if a = k then some v else m a
variable {κ : α → Value} {ν : β → Value} {m : α → Option β} {P : Program} {kt : TypeId}
theorem uN.put [DecidableEq α] (K : gV P kt κ) {es : Array MapEntry} (h : uN κ ν m es.toList) (k : α) (v : β) {clock : Nat} (h0 : ∀ e ∈ es.toList, e.key ≠ κ k) : uN κ ν (gU m k v) (es.push { key := κ k, val := ν v, born := clock }).toList where
 of e he := by
   rw [Array.toList_push, List.mem_append, List.mem_singleton] at he
   rcases he with he | rfl
   · obtain ⟨a, u, h1, h2, h3⟩ := h.of e he
     refine ⟨a, u, h1, h2, ?_⟩
     have : a ≠ k := fun e' => h0 e he (by rw [h1, e'])
     simp [gU, this, h3]
   · exact ⟨k, v, rfl, rfl, by simp [gU]⟩
 mem a u ha := by
   unfold gU at ha
   split at ha
   · rename_i hak
     simp only [Option.some.injEq] at ha
     subst hak ha
     exact ⟨_, by rw [Array.toList_push]; exact List.mem_append_right _ (List.mem_singleton.2 rfl), rfl, rfl⟩
   · obtain ⟨e, he, h1, h2⟩ := h.mem a u ha
     exact ⟨e, by rw [Array.toList_push]; exact List.mem_append_left _ he, h1, h2⟩
 apart := by
   rw [Array.toList_push, List.pairwise_append]
   exact ⟨h.apart, List.pairwise_singleton _ _, fun e he e' he' => by rw [List.mem_singleton.1 he']; exact h0 e he⟩
theorem uN.turn [DecidableEq α] (K : gV P kt κ) {es : Array MapEntry} (h : uN κ ν m es.toList) (k : α) (v : β) {j : Nat} {e0 : MapEntry} (hj : es.toList[j]? = some e0) (h0 : e0.key = κ k) :
   uN κ ν (gU m k v) (es.modify j fun e => { e with key := κ k, val := ν v }).toList := by
 have hjl : j < es.toList.length := (List.getElem?_eq_some_iff.1 hj).1
 have hg : ∀ i, (es.modify j fun e => { e with key := κ k, val := ν v }).toList[i]? = if i = j then some { e0 with key := κ k, val := ν v } else es.toList[i]? := fun i => by
   rw [Array.getElem?_toList, Array.getElem?_modify]
   by_cases hij : i = j
   · subst hij
     rw [if_pos rfl, if_pos rfl, ← Array.getElem?_toList, hj]; rfl
   · rw [if_neg hij, if_neg (Ne.symm hij), Array.getElem?_toList]
 have hpw := List.pairwise_iff_getElem.1 h.apart
 have hne : ∀ i e, es.toList[i]? = some e → i ≠ j → e.key ≠ κ k := fun i e hi hij hk => by
   obtain ⟨hil, rfl⟩ := List.getElem?_eq_some_iff.1 hi
   obtain ⟨_, rfl⟩ := List.getElem?_eq_some_iff.1 hj
   rcases Nat.lt_or_gt_of_ne hij with hlt | hlt
   · exact hpw i j hil hjl hlt (by rw [hk, h0])
   · exact hpw j i hjl hil hlt (by rw [hk, h0])
 refine ⟨fun e he => ?_, fun a u ha => ?_, ?_⟩
 · obtain ⟨i, hi⟩ := List.mem_iff_getElem?.1 he
   rw [hg] at hi
   split at hi
   · simp only [Option.some.injEq] at hi
     subst hi
     exact ⟨k, v, rfl, rfl, by simp [gU]⟩
   · rename_i hij
     obtain ⟨a, u, h1, h2, h3⟩ := h.of e (List.mem_of_getElem? hi)
     refine ⟨a, u, h1, h2, ?_⟩
     have : a ≠ k := fun e' => hne i e hi hij (by rw [h1, e'])
     simp [gU, this, h3]
 · unfold gU at ha
   split at ha
   · rename_i hak
     simp only [Option.some.injEq] at ha
     subst hak ha
     exact ⟨_, List.mem_of_getElem? (by rw [hg, if_pos rfl]), rfl, rfl⟩
   · rename_i hak
     obtain ⟨e, he, h1, h2⟩ := h.mem a u ha
     obtain ⟨i, hi⟩ := List.mem_iff_getElem?.1 he
     have hij : i ≠ j := fun hij => by
       rw [hij, hj] at hi
       simp only [Option.some.injEq] at hi
       subst hi
       exact hak (K.inj _ _ (by rw [← h1, h0]))
     exact ⟨e, List.mem_of_getElem? (i := i) (by rw [hg, if_neg hij, hi]), h1, h2⟩
 · rw [List.pairwise_iff_getElem]
   intro i i' hi hi' hlt
   have l1 := List.getElem?_eq_getElem hi
   have l2 := List.getElem?_eq_getElem hi'
   rw [hg] at l1 l2
   split at l1
   · rename_i hij
     rw [if_neg (by omega)] at l2
     simp only [Option.some.injEq] at l1
     rw [← l1]
     exact fun e => hne i' _ l2 (by omega) e.symm
   · rename_i hij
     split at l2
     · simp only [Option.some.injEq] at l2
       rw [← l2]
       exact hne i _ l1 hij
     · obtain ⟨q1, e1⟩ := List.getElem?_eq_some_iff.1 l1
       obtain ⟨q2, e2⟩ := List.getElem?_eq_some_iff.1 l2
       rw [← e1, ← e2]
       exact hpw i i' q1 q2 hlt
variable {n : Fr} {env : Env} {ps : List Per} {hp : List Res} {ty : TypeId} {pos : String} {af : Array Edge} {gd : Option (Nat × Bool)} {K : Sta → Prop} {d : Option Tmp} {q : Bool}
theorem fQ {t : Nat} {T : TypeId} (κ : α → Value) (ν : β → Value) (ht : fits n (some t) = true) (hK : ∀ b, K ⟨(t, true, .map (some b)) :: env, ps, hp ++ [ft b κ ν fun _ => none]⟩) :
   Eff P n ⟨some t, .makeMap T none, ty, pos, af, gd⟩ ⟨env, ps, hp⟩ q K := .push fun w S fp a hst he hn => by
 have : (execOp a.eval ⟨some t, .makeMap T none, ty, pos, af, gd⟩).run P w = .ok (.value (.map (some w.heap.size))) (w.alloc (.map #[] 0)) := by
   show ((Instr.makeMap T none).bind fun r => Sem.pure (Next.value r)).run P w = _
   rw [Sem.run_bind']
   have : (Instr.makeMap T none).run P w = .ok (.map (some w.heap.size)) (w.alloc (.map #[] 0)) := by
     simp [Instr.makeMap, Sem.run_bind, Result.andThen, newObj, Sem.run]
   rw [this]; rfl
 rw [this]
 refine ⟨ft w.heap.size κ ν fun _ => none, fun b => b = w.heap.size, _, hK w.heap.size, rfl, rfl, he.put (g := true) (by rw [hn]; simpa [fits] using ht) _, gD _ _, ⟨⟨#[], 0, ph _ _, ⟨fun e he => (by simp at he), fun a v h => (by cases h), List.Pairwise.nil⟩, stamped_empty 0⟩, fun _ => Iff.rfl⟩, fun b hb => ?_⟩
 subst hb
 exact ⟨Nat.le_refl _, by rw [World.size_alloc]; omega⟩
theorem eN [DecidableEq α] {T E : TypeId} {x y z : Operand} {b : Nat} {k : α} {v : β} (i : Nat) (hT : P.underlying T = some (.map kt E)) (KO : gV P kt κ) (hx : ev env x = some (true, .map (some b))) (hy : ev env y = some (true, κ k)) (hz : ev env z = some (true, ν v)) (hi : hp[i]? = some (ft b κ ν m))
   (hK : K ⟨env, ps, hp.set i (ft b κ ν (gU m k v))⟩) : Eff P n ⟨none, .mapUpdate T x y z, ty, pos, af, gd⟩ ⟨env, ps, hp⟩ false K := .change i hi fun w S fp a hst he hn ⟨⟨es, clock, hb, hes, hsm⟩, hF⟩ => by
 have h1 := he.val hx rfl
 have h2 := he.val hy rfl
 have h3 := he.val hz rfl
 have key : ∃ es' clock', (Instr.mapUpdate T (.map (some b)) (κ k) (ν v)).run P w = .ok () (w.putObj b (.map es' clock')) ∧ uN κ ν (gU m k v) es'.toList ∧ Stamped es' clock' := by
   rcases KO.find w k es.toList (fun e he => let ⟨a, _, h, _⟩ := hes.of e he; ⟨a, h⟩) with ⟨f1, f2⟩ | ⟨j, e0, f1, f2, f3⟩
   · refine ⟨es.push { key := κ k, val := ν v, born := clock }, clock + 1, ?_, hes.put KO k v f2, stamped_push hsm f2⟩
     simp only [Instr.mapUpdate, Sem.run_bind, run_underlying hT, Result.andThen, Go.MapKept.run_getObj_map hb, KO.check, f1, Go.MapKept.run_setObj_map _ hb]
     rfl
   · refine ⟨es.modify j fun e => { e with key := κ k, val := ν v }, clock, ?_, hes.turn KO k v f2 f3, stamped_modify hsm j _ (fun _ _ => rfl) (fun e he h => by rw [← Array.getElem?_toList, f2] at h; obtain rfl := Option.some.inj h; exact f3.symm)⟩
     have f2' : es[j]? = some e0 := by rw [← Array.getElem?_toList]; exact f2
     simp only [Instr.mapUpdate, Sem.run_bind, run_underlying hT, Result.andThen, Go.MapKept.run_getObj_map hb, KO.check, f1, f2', Option.map_some, Option.getD_some, f3, KO.stays, Go.MapKept.run_setObj_map _ hb]
     rfl
 obtain ⟨es', clock', hrun, hes'⟩ := key
 have : (execOp a.eval ⟨none, .mapUpdate T x y z, ty, pos, af, gd⟩).run P w = .ok .skip (w.putObj b (.map es' clock')) := by
   unfold execOp; dsimp only; rw [h1, h2, h3]
   show ((Instr.mapUpdate T (.map (some b)) (κ k) (ν v)).bind fun _ => Sem.pure Next.skip).run P w = _
   rw [Sem.run_bind', hrun]; rfl
 rw [this]
 have hbl := (Array.getElem?_eq_some_iff.1 hb).1
 exact ⟨ft b κ ν (gU m k v), _, hK, rfl, rfl, he, ⟨⟨es', clock', World.putObj_heap_same hbl, hes'⟩, hF⟩, rfl, rfl, ⟨rfl, rfl⟩, by rw [World.putObj_size]; exact Nat.le_refl _, fun b' _ hb' => World.putObj_heap_other (fun e => hb' ((hF b').2 e))⟩
theorem uF {T E : TypeId} {x y : Operand} {b : Nat} {k : α} {v0 : β} (i : Nat) (ok : Bool) (hT : P.underlying T = some (.map kt E)) (KO : gV P kt κ) (hz : (P.info? E).bind (·.zero) = some (ν v0)) (hx : ev env x = some (true, .map (some b))) (hy : ev env y = some (true, κ k)) (hi : hp[i]? = some (ft b κ ν m)) :
   Quiet P n ⟨d, .lookup T x y ok, ty, pos, af, gd⟩ ⟨env, ps, hp⟩ (bif ok then .tuple #[ν ((m k).getD v0), .bool (m k).isSome] else ν ((m k).getD v0)) := fun w S fp a hst he hn => by
 have h1 := he.val hx rfl
 have h2 := he.val hy rfl
 obtain ⟨⟨es, clock, hb, hes, _⟩, hF⟩ := hst.res i _ hi
 have hzr : (zeroValue E).run P w = .ok (ν v0) w := by
   cases hE : P.info? E with
   | none => rw [hE] at hz; cases hz
   | some it =>
     rw [hE, Option.bind_some] at hz
     simp [zeroValue, typeInfo, hE, hz]
 have hrun : (Instr.lookup T (.map (some b)) (κ k) ok).run P w = .ok (bif ok then .tuple #[ν ((m k).getD v0), .bool (m k).isSome] else ν ((m k).getD v0)) w := by
   rcases KO.find w k es.toList (fun e he => let ⟨a, _, h, _⟩ := hes.of e he; ⟨a, h⟩) with ⟨f1, f2⟩ | ⟨j, e0, f1, f2, f3⟩
   · have hm : m k = none := by
       cases hmk : m k with
       | none => rfl
       | some u => obtain ⟨e, he, g1, _⟩ := hes.mem k u hmk; exact (f2 e he g1).elim
     rw [hm]
     simp only [Instr.lookup, Sem.run_bind, run_underlying hT, Result.andThen, Go.MapKept.run_getObj_map hb, KO.check, f1, hzr, Sem.run_pure]
     cases ok <;> rfl
   · obtain ⟨a, u, g1, g2, g3⟩ := hes.of e0 (List.mem_of_getElem? f2)
     obtain rfl : a = k := KO.inj _ _ (by rw [← g1, f3])
     rw [g3]
     simp only [Instr.lookup, Sem.run_bind, run_underlying hT, Result.andThen, Go.MapKept.run_getObj_map hb, KO.check, f1, Sem.run_pure, g2]
     cases ok <;> rfl
 have : (execOp a.eval ⟨d, .lookup T x y ok, ty, pos, af, gd⟩).run P w = .ok (.value (bif ok then .tuple #[ν ((m k).getD v0), .bool (m k).isSome] else ν ((m k).getD v0))) w := by
   unfold execOp; dsimp only; rw [h1, h2]
   show ((Instr.lookup T (.map (some b)) (κ k) ok).bind fun r => Sem.pure (Next.value r)).run P w = _
   rw [Sem.run_bind', hrun]; rfl
 rw [this]; exact cg _ _
theorem l4 {T E : TypeId} {x y : Operand} {b : Nat} {k : α} {v0 : β} (i : Nat) (hT : P.underlying T = some (.map kt E)) (KO : gV P kt κ) (hz : (P.info? E).bind (·.zero) = some (ν v0)) (hx : ev env x = some (true, .map (some b))) (hy : ev env y = some (true, κ k)) (hi : hp[i]? = some (ft b κ ν m)) :
   Quiet P n ⟨d, .lookup T x y false, ty, pos, af, gd⟩ ⟨env, ps, hp⟩ (ν ((m k).getD v0)) := uF i false hT KO hz hx hy hi
theorem tJ {T E : TypeId} {x y : Operand} {b : Nat} {k : α} {v0 : β} (i : Nat) (hT : P.underlying T = some (.map kt E)) (KO : gV P kt κ) (hz : (P.info? E).bind (·.zero) = some (ν v0)) (hx : ev env x = some (true, .map (some b))) (hy : ev env y = some (true, κ k)) (hi : hp[i]? = some (ft b κ ν m)) :
   Quiet P n ⟨d, .lookup T x y true, ty, pos, af, gd⟩ ⟨env, ps, hp⟩ (.tuple #[ν ((m k).getD v0), .bool (m k).isSome]) := uF i true hT KO hz hx hy hi
end
end Go.Sy

namespace Go.Sy
open Go.RowKit
section
variable {P : Program} {n : Fr} {s : Sta} {d : Option Tmp} {ty : TypeId} {pos : String} {af : Array Edge} {gd : Option (Nat × Bool)} {x y : Operand} {t t' : TypeId}
theorem acb {b1 b2 : Bool} (hT : P.underlying t = some .bool) (hx : ev s.env x = some (true, .bool b1)) (hy : ev s.env y = some (true, .bool b2)) : Quiet P n ⟨d, .binOp .neq t x y t', ty, pos, af, gd⟩ s (.bool (!(b1 == b2))) :=
 .run2 hx hy fun ρ w h1 h2 => by
   unfold execOp; dsimp only; rw [h1, h2]
   simp only [eqGuard_at_bool, binOp, Sem.run_bind, Sem.run_pure, run_equal_bool w t b1 b2 hT, Result.andThen_ok]
theorem xJ {k yk : IntKind} {a b : Int} (hx : ev s.env x = some (true, .int k a)) (hy : ev s.env y = some (true, .int yk b)) (hb : 0 ≤ b) : Quiet P n ⟨d, .binOp .shl t x y t', ty, pos, af, gd⟩ s (.int k (k.wrap (a * 2 ^ min b.toNat k.bits))) :=
 .run2 hx hy fun ρ w h1 h2 => by
   have e : Op.shift .shl k a yk b = pure (.int k (k.wrap (a * 2 ^ min b.toNat k.bits))) := by unfold Op.shift; rw [if_neg (by omega)]
   unfold execOp; dsimp only; rw [h1, h2]
   have e2 : (do eqGuard BinOp.shl t x y (Value.int k a) (Value.int yk b); binOp BinOp.shl t (Value.int k a) (Value.int yk b)) = Op.shift .shl k a yk b := by cases k <;> cases yk <;> rfl
   rw [e2, e]; rfl
theorem abG {k yk : IntKind} {a b : Int} (hx : ev s.env x = some (true, .int k a)) (hy : ev s.env y = some (true, .int yk b)) (hb : 0 ≤ b) : Quiet P n ⟨d, .binOp .shr t x y t', ty, pos, af, gd⟩ s (.int k (a.fdiv (2 ^ min b.toNat k.bits))) :=
 .run2 hx hy fun ρ w h1 h2 => by
   have e : Op.shift .shr k a yk b = pure (.int k (a.fdiv (2 ^ min b.toNat k.bits))) := by unfold Op.shift; rw [if_neg (by omega)]
   unfold execOp; dsimp only; rw [h1, h2]
   have e2 : (do eqGuard BinOp.shr t x y (Value.int k a) (Value.int yk b); binOp BinOp.shr t (Value.int k a) (Value.int yk b)) = Op.shift .shr k a yk b := by cases k <;> cases yk <;> rfl
   rw [e2, e]; rfl
theorem xD {k : IntKind} {a b : Int} (hx : ev s.env x = some (true, .int k a)) (hy : ev s.env y = some (true, .int k b)) : Quiet P n ⟨d, .binOp .or t x y t', ty, pos, af, gd⟩ s (.int k (k.wrap (BitVec.ofInt k.bits a ||| BitVec.ofInt k.bits b).toNat)) :=
 .run2 hx hy fun ρ w h1 h2 => by
   unfold execOp; dsimp only; rw [h1, h2]; cases k <;> rfl
theorem aa9 {k : IntKind} {a b : Int} (hx : ev s.env x = some (true, .int k a)) (hy : ev s.env y = some (true, .int k b)) : Quiet P n ⟨d, .binOp .and t x y t', ty, pos, af, gd⟩ s (.int k (k.wrap (BitVec.ofInt k.bits a &&& BitVec.ofInt k.bits b).toNat)) :=
 .run2 hx hy fun ρ w h1 h2 => by
   unfold execOp; dsimp only; rw [h1, h2]; cases k <;> rfl
end
end Go.Sy

namespace Go.Sy
open Go.RowKit Go.Lp Go.MapKept
section
variable {P : Program}
def dG (k : ByteArray × ByteArray) : Value := .agg #[.string k.1, .string k.2]
theorem sr (a b : ByteArray × ByteArray) (h : dG a = dG b) : a = b := by
 unfold dG at h
 injection h with h
 simp at h
 exact Prod.ext h.1 h.2
theorem oh (d : Nat) (t : TypeId) (a b : ByteArray) (w : World) (h : P.underlying t = some .string) : (Op.equalIn (d + 1) t (.string a) (.string b)).run P w = .ok (decide (a = b)) w := by
 have : (a == b) = decide (a = b) := by rw [Bool.eq_iff_iff, bytes_beq, decide_eq_true_eq]
 simp [Op.equalIn, run_underlying h, this]
theorem mr {e : TypeId} (he : P.underlying e = some .string) {xs : Array Value} {off : Nat} {v : Value} (hx : xs[off]? = some v) (w : World) : (part e xs off).run P w = .ok v w :=
 run_part_plain w (by unfold Program.plainKey; rw [he]) hx
theorem yM {kt : TypeId} (hwide : (match P.underlying kt with | some (.array _ _) | some (.struct _) => true | _ => false) = true) (heq : ∀ (w : World) (a b : ByteArray × ByteArray), (Op.equal kt (dG a) (dG b)).run P w = .ok (decide (a = b)) w) (w : World) (x : ByteArray × ByteArray) (es : List MapEntry) (hes : ∀ e ∈ es, ∃ a, e.key = dG a) :
   ((Instr.findKey kt (dG x) es).run P w = .ok none w ∧ ∀ e ∈ es, e.key ≠ dG x) ∨ ∃ j e, (Instr.findKey kt (dG x) es).run P w = .ok (some (j, e.val)) w ∧ es[j]? = some e ∧ e.key = dG x := by
 have key : ∀ (es : List MapEntry) (i : Nat), (∀ e ∈ es, ∃ a, e.key = dG a) →
     ((Instr.findAsking kt (dG x) es i).run P w = .ok none w ∧ ∀ e ∈ es, e.key ≠ dG x) ∨ ∃ j e, (Instr.findAsking kt (dG x) es i).run P w = .ok (some (i + j, e.val)) w ∧ es[j]? = some e ∧ e.key = dG x := by
   intro es
   induction es with
   | nil => intro i _; exact .inl ⟨by simp [Instr.findAsking], fun e he => by cases he⟩
   | cons e es ih =>
     intro i hall
     obtain ⟨a, ha⟩ := hall e List.mem_cons_self
     have hr := heq w x a
     by_cases hxa : x = a
     · refine .inr ⟨0, e, ?_, rfl, by rw [ha, hxa]⟩
       rw [decide_eq_true hxa] at hr
       simp [Instr.findAsking, ha, hr]
     · rw [decide_eq_false hxa] at hr
       rcases ih (i + 1) (fun y hy => hall y (List.mem_cons_of_mem _ hy)) with ⟨h1, h2⟩ | ⟨j, e', h1, h2, h3⟩
       · refine .inl ⟨by simp [Instr.findAsking, ha, hr, h1], fun y hy => ?_⟩
         rcases List.mem_cons.1 hy with rfl | hy
         · rw [ha]; exact fun hh => hxa (sr _ _ hh).symm
         · exact h2 y hy
       · exact .inr ⟨j + 1, e', by simp [Instr.findAsking, ha, hr, h1, Nat.add_assoc, Nat.add_comm 1 j], by simpa using h2, h3⟩
 rw [run_findKey_eq w hwide]
 rcases key es 0 hes with h | ⟨j, e, h1, h2, h3⟩
 · exact .inl h
 · exact .inr ⟨j, e, by simpa using h1, h2, h3⟩
theorem wO (w : World) (a : ByteArray × ByteArray) : (Instr.keyThatStays (dG a) (dG a)).run P w = .ok (dG a) w := by
 have : Instr.sameBits 10000 (dG a) (dG a) = true := by simp [dG, Instr.sameBits, bytes_beq]
 simp [Instr.keyThatStays, this]
theorem yJ (em : Bool) (m : Nat) {e : TypeId} (he : P.underlying e = some .string) (v : ByteArray) (w : World) : (Instr.checkKey em (m + 1) e (.string v)).run P w = .ok () w := by simp [Instr.checkKey, run_underlying he]
theorem uD {kt e : TypeId} {i : TypeInfo} (hu : P.underlying kt = some (.array 2 e)) (hi : P.info? e = some i) (hc : P.cellsOf e = 1) (he : P.underlying e = some .string) (w : World) (em : Bool) (m : Nat) (a : ByteArray × ByteArray) : (Instr.checkKey em (m + 1 + 1) kt (dG a)).run P w = .ok () w := by
 have h1 : (part e #[Value.string a.1, Value.string a.2] 0).run P w = .ok (.string a.1) w := mr he rfl w
 have h2 : (part e #[Value.string a.1, Value.string a.2] 1).run P w = .ok (.string a.2) w := mr he rfl w
 unfold dG Instr.checkKey
 simp only [Sem.run_bind, run_underlying hu, Result.andThen_ok]
 simp only [Std.Legacy.Range.forIn_eq_forIn_range', Std.Legacy.Range.size]
 simp [List.range', run_sizeOf w hi, hc, h1, h2, yJ em m he]
theorem abI {kt e : TypeId} {i : TypeInfo} (hu : P.underlying kt = some (.array 2 e)) (hi : P.info? e = some i) (hc : P.cellsOf e = 1) (he : P.underlying e = some .string) (w : World) (m : Nat) (a b : ByteArray × ByteArray) : (Op.equalIn (m + 1 + 1) kt (dG a) (dG b)).run P w = .ok (decide (a = b)) w := by
 have h1 : ∀ x y : ByteArray, (part e #[Value.string x, Value.string y] 0).run P w = .ok (.string x) w := fun x y => mr he rfl w
 have h2 : ∀ x y : ByteArray, (part e #[Value.string x, Value.string y] 1).run P w = .ok (.string y) w := fun x y => mr he rfl w
 unfold dG
 rw [run_equalIn_array w (m + 1) _ _ hu hi, hc]
 simp only [List.range_succ, List.range_zero, List.nil_append, List.cons_append, Op.eqItems, Sem.run_bind, Nat.zero_mul, Nat.one_mul, h1, h2, Result.andThen_ok, oh m e _ _ w he]
 by_cases e1 : a.1 = b.1 <;> by_cases e2 : a.2 = b.2 <;> simp [e1, e2, h2, oh m e _ _ w he, Prod.ext_iff]
theorem abN {kt e : TypeId} {i : TypeInfo} (hu : P.underlying kt = some (.array 2 e)) (hi : P.info? e = some i) (hc : P.cellsOf e = 1) (he : P.underlying e = some .string) : gV P kt dG where
 inj := sr
 check w em a := uD hu hi hc he w em 9998 a
 find := yM (by rw [hu]) fun w a b => abI hu hi hc he w 9998 a b
 stays := wO
theorem y8 {kt e : TypeId} (hu : P.underlying kt = some (.array 2 e)) (hi : (P.info? e).isSome = true) (hc : P.cellsOf e = 1) (he : P.underlying e = some .string) : gV P kt dG :=
 let ⟨_, h⟩ := Option.isSome_iff_exists.1 hi
 abN hu h hc he
end
end Go.Sy

namespace Go.Sy
open Go.RowKit Go.Lp
abbrev eI (z : Int) : Value := .int .i64 z
def i6 (s : ByteArray) : Value := .string s
def vBo (b : Bool) : Value := .bool b
def fc {α : Type} [DecidableEq α] (l : List α) : α → Option Bool := fun a => if a ∈ l then some true else none
theorem p6 {α : Type} [DecidableEq α] : (fun _ : α => (none : Option Bool)) = fc [] := by funext a; simp [fc]
theorem gJ {α : Type} [DecidableEq α] (l : List α) (a : α) : fc (l ++ [a]) = gU (fc l) a true := by
 funext b; unfold fc gU
 by_cases h : b = a
 · subst h; simp
 · by_cases hb : b ∈ l <;> simp [h, hb]
theorem abT {α : Type} [DecidableEq α] (l : List α) (a : α) : (fc l a).getD false = decide (a ∈ l) := by
 unfold fc; by_cases h : a ∈ l <;> simp [h]
end Go.Sy

namespace Go.Sy
open Go.RowKit Go.Lp Go.MapKept
open Go.ChangeMaps (setBlock)
section
variable {α β : Type} {κ : α → Value} {ν : β → Value} {m : α → Option β} {P : Program} {kt : TypeId}
variable {n : Fr} {env : Env} {ps : List Per} {hp : List Res} {ty : TypeId} {pos : String} {af : Array Edge} {gd : Option (Nat × Bool)} {K : Sta → Prop} {d : Option Tmp}
variable {c : Code} {Q : Exit → Sta → Prop}
end
end Go.Sy

namespace Go.Sy
open Go.RowKit Go.Lp
open Classical in
noncomputable def rZ {α β : Type} (m : α → Option β) : Nat := if h : ∃ ks : List α, ks.Nodup ∧ ∀ a, (m a).isSome = true ↔ a ∈ ks then h.choose.length else 0
theorem eD {γ : Type} : ∀ (D R : List γ), D.Nodup → (∀ x ∈ D, x ∈ R) → D.length ≤ R.length
 | [], _, _, _ => Nat.zero_le _
 | a :: D, R, hn, h => by
   rw [List.nodup_cons] at hn
   obtain ⟨s, t, rfl⟩ := List.append_of_mem (h a (by simp))
   have := eD D (s ++ t) hn.2 fun x hx => by
     have hx2 := h x (by simp [hx])
     rw [List.mem_append, List.mem_cons] at hx2
     rcases hx2 with h1 | rfl | h1
     · exact List.mem_append_left _ h1
     · exact absurd hx hn.1
     · exact List.mem_append_right _ h1
   rw [List.length_append] at this
   rw [List.length_cons, List.length_append, List.length_cons]; omega
theorem tW {α β : Type} {m : α → Option β} {ks : List α} (hn : ks.Nodup) (h : ∀ a, (m a).isSome = true ↔ a ∈ ks) : rZ m = ks.length := by
 have hx : ∃ ks : List α, ks.Nodup ∧ ∀ a, (m a).isSome = true ↔ a ∈ ks := ⟨ks, hn, h⟩
 unfold rZ
 rw [dif_pos hx]
 have h2 := hx.choose_spec
 exact Nat.le_antisymm (eD _ _ h2.1 fun x hx' => (h x).1 ((h2.2 x).2 hx')) (eD _ _ hn fun x hx' => (h2.2 x).1 ((h x).2 hx'))
theorem adt {P : Program} {n : Fr} {env : Env} {ps : List Per} {hp : List Res} {d : Option Tmp} {ty : TypeId} {pos : String} {af : Array Edge} {gd : Option (Nat × Bool)} {α β : Type} {κ : α → Value} {ν : β → Value} {m : α → Option β} {kt : TypeId} [Inhabited α]
   {x : Operand} {T E : TypeId} {b : Nat} (i : Nat) (hT : P.underlying T = some (.map kt E)) (KO : gV P kt κ) (hx : ev env x = some (true, .map (some b))) (hi : hp[i]? = some (ft b κ ν m)) :
   Quiet P n ⟨d, .call ⟨.builtin .len, #[x], #[T]⟩, ty, pos, af, gd⟩ ⟨env, ps, hp⟩ (.int .i64 (rZ m)) := fun w S fp a hst he hn => by
 have h1 := he.val hx rfl
 obtain ⟨⟨es, clock, hb, hes, _⟩, hF⟩ := hst.res i _ hi
 have hT' : P.underlying T = some (.map (P.mapKeyOf T) (P.mapElemOf T)) := by rw [hT]; unfold Program.mapKeyOf Program.mapElemOf; rw [hT]
 have hrun := run_len_map (P := P) (w := w) T ty b es clock hT' hb
 obtain ⟨f, hf⟩ : ∃ f : MapEntry → α, ∀ e ∈ es.toList, e.key = κ (f e) ∧ (m (f e)).isSome = true := by
   have : ∀ e : MapEntry, ∃ a : α, e ∈ es.toList → e.key = κ a ∧ (m a).isSome = true := fun e => by
     by_cases he : e ∈ es.toList
     · obtain ⟨a, v, h1, _, h3⟩ := hes.of e he
       exact ⟨a, fun _ => ⟨h1, by rw [h3]; rfl⟩⟩
     · exact ⟨default, fun h => absurd h he⟩
   exact ⟨fun e => (this e).choose, fun e he => (this e).choose_spec he⟩
 have hc : rZ m = es.size := by
   rw [tW (ks := es.toList.map f)]
   · simp
   · show List.Pairwise _ _
     rw [List.pairwise_map]
     refine hes.apart.imp_of_mem fun ha hb h e => h ?_
     rw [(hf _ ha).1, (hf _ hb).1, e]
   · intro a
     rw [List.mem_map]
     constructor
     · intro h
       obtain ⟨v, hv⟩ := Option.isSome_iff_exists.1 h
       obtain ⟨e, he, h2, _⟩ := hes.mem a v hv
       exact ⟨e, he, KO.inj _ _ ((hf e he).1.symm.trans h2)⟩
     · rintro ⟨e, he, rfl⟩; exact (hf e he).2
 have : (execOp a.eval ⟨d, .call ⟨.builtin .len, #[x], #[T]⟩, ty, pos, af, gd⟩).run P w = .ok (.value (.int .i64 (rZ m))) w := by
   have e : (execOp a.eval ⟨d, .call ⟨.builtin .len, #[x], #[T]⟩, ty, pos, af, gd⟩) = (Builtin.len_ #[T] ty (#[x].map a.eval)).bind fun r => Sem.pure (Next.value r) := rfl
   rw [e, show #[x].map a.eval = #[.map (some b)] by simp [h1], Sem.run_bind', hrun, hc]; rfl
 rw [this]; exact cg _ _
end Go.Sy

namespace Go.Lv
open Go
theorem aeh (z : Int) : zz z = Lib.zigzag z := by unfold zz Lib.zigzag; split <;> split <;> omega
theorem oU (m : Nat) : aO m ≠ [] := fun h => by have := pA m; rw [h] at this; cases this
theorem eb (a b : List UInt8) : bytesOf (a ++ b) = bytesOf a ++ bytesOf b := by
 apply ByteArray.ext
 show (a ++ b).toArray = (bytesOf a ++ bytesOf b).data
 rw [ByteArray.data_append]
 show _ = a.toArray ++ b.toArray
 simp
theorem mc (r : List UInt8) {z : Int} {i : Nat} (hz : z = i) : (bytesOf r).extract z.toNat (bytesOf r).size = bytesOf (r.drop i) := by
 subst hz
 apply ByteArray.ext
 rw [ByteArray.data_extract]
 show r.toArray.extract i r.toArray.size = (r.drop i).toArray
 rw [List.extract_toArray, List.size_toArray]
 show ((r.drop i).take (r.length - i)).toArray = _
 rw [List.take_of_length_le (by rw [List.length_drop]; exact Nat.le_refl _)]
theorem jS (r : List UInt8) {z : Int} {i : Nat} (hz : z = i) : (bytesOf r).extract 0 z.toNat = bytesOf (r.take i) := by
 subst hz
 apply ByteArray.ext
 rw [ByteArray.data_extract]
 show r.toArray.extract 0 i = (r.take i).toArray
 rw [List.extract_toArray]
 show ((r.drop 0).take (i - 0)).toArray = _
 simp
theorem adr (m : Nat) : IntKind.u8.wrap (BitVec.ofInt IntKind.u8.bits (IntKind.u8.wrap ((m : Int).tmod 128)) ||| BitVec.ofInt IntKind.u8.bits 128).toNat = ((m % 128 + 128 : Nat) : Int) := by
 have e : IntKind.u8.wrap ((m : Int).tmod 128) = ((m % 128 : Nat) : Int) := by
   rw [show (m : Int).tmod 128 = ((m % 128 : Nat) : Int) from rfl, IntKind.wrap_u8]; omega
 rw [e]
 have h := Lib.u8_or128_any ((m % 128 : Nat) : Int) (by omega) (by omega)
 have h2 : bits .or .u8 ((m % 128 : Nat) : Int) 128 = IntKind.u8.wrap (BitVec.ofInt IntKind.u8.bits ((m % 128 : Nat) : Int) ||| BitVec.ofInt IntKind.u8.bits 128).toNat := rfl
 rw [← h2, h]; omega
theorem xX {m : Nat} (h : m < 128) : IntKind.u8.wrap (m : Int) = ((m : Nat) : Int) := by rw [IntKind.wrap_u8]; omega
theorem aaZ {acc c i : Nat} (ha : acc < 128 ^ i) (hi : i ≤ 9) (hc : i = 9 → c ≤ 1) (hc2 : c < 256) :
   IntKind.u64.wrap (BitVec.ofInt IntKind.u64.bits (acc : Int) ||| BitVec.ofInt IntKind.u64.bits (IntKind.u64.wrap (((c : Int).tmod 128) * 2 ^ min ((7 * (i : Int)).toNat) IntKind.u64.bits))).toNat = ((acc + 128 ^ i * (c % 128) : Nat) : Int) := by
 have hp : (128 : Nat) ^ i = 2 ^ (7 * i) := by rw [Nat.pow_mul]
 have hm : min ((7 * (i : Int)).toNat) IntKind.u64.bits = 7 * i := by
   have : (7 * (i : Int)).toNat = 7 * i := by omega
   rw [this]
   exact Nat.min_eq_left (by show 7 * i ≤ 64; omega)
 have hlt : 128 ^ i * (c % 128) < 2 ^ 64 := by
   rcases Nat.lt_or_ge i 9 with h | h
   · have h1 : 128 ^ i ≤ 128 ^ 8 := Nat.pow_le_pow_right (by decide) (by omega)
     have h2 : c % 128 < 128 := Nat.mod_lt _ (by decide)
     calc 128 ^ i * (c % 128) ≤ 128 ^ 8 * 127 := Nat.mul_le_mul h1 (by omega)
       _ < 2 ^ 64 := by decide
   · have h9 : i = 9 := by omega
     subst h9
     have := hc rfl
     have h2 : c % 128 ≤ 1 := by omega
     calc 128 ^ 9 * (c % 128) ≤ 128 ^ 9 * 1 := Nat.mul_le_mul_left _ h2
       _ < 2 ^ 64 := by decide
 have hx : IntKind.u64.wrap (((c : Int).tmod 128) * 2 ^ (7 * i)) = ((128 ^ i * (c % 128) : Nat) : Int) := by
   have e : ((c : Int).tmod 128) * 2 ^ (7 * i) = ((128 ^ i * (c % 128) : Nat) : Int) := by
     rw [show (c : Int).tmod 128 = ((c % 128 : Nat) : Int) from rfl, hp]
     push_cast; exact Int.mul_comm _ _
   rw [e]; exact Go.wraps_u64 _ (by omega) (by exact_mod_cast hlt)
 rw [hm, hx]
 have hacc : acc < 2 ^ 64 := Nat.lt_of_lt_of_le ha (by
   have : 128 ^ i ≤ 128 ^ 9 := Nat.pow_le_pow_right (by decide) hi
   exact Nat.le_trans this (by decide))
 have h := Go.bits_join_low .u64 64 (by decide) Go.wraps_u64 (7 * i) (acc : Int) ((128 ^ i * (c % 128) : Nat) : Int) (by omega) (by exact_mod_cast (hp ▸ ha)) (by exact_mod_cast hacc) (by omega) (by
   rw [hp]; push_cast; exact Int.mul_emod_right _ _) (by exact_mod_cast hlt)
 have h2 : bits .or .u64 (acc : Int) ((128 ^ i * (c % 128) : Nat) : Int) = IntKind.u64.wrap (BitVec.ofInt IntKind.u64.bits (acc : Int) ||| BitVec.ofInt IntKind.u64.bits ((128 ^ i * (c % 128) : Nat) : Int)).toNat := rfl
 rw [← h2, h]; push_cast; rfl
theorem adx {z : Int} (h : I64 z) : bits .xor .u64 (IntKind.u64.wrap (IntKind.u64.wrap z * 2 ^ min (1 : Int).toNat IntKind.u64.bits)) (IntKind.u64.wrap (z.fdiv (2 ^ min (63 : Int).toNat IntKind.i64.bits))) = ((zz z : Nat) : Int) := by
 have e1 : (2 : Int) ^ min (1 : Int).toNat IntKind.u64.bits = 2 := by decide
 have e2 : (2 : Int) ^ min (63 : Int).toNat IntKind.i64.bits = 9223372036854775808 := by decide
 rw [e1, e2]
 unfold I64 at h
 by_cases hn : z < 0
 · have : z.fdiv 9223372036854775808 = -1 := by rw [Int.fdiv_eq_ediv_of_nonneg _ (by decide)]; omega
   rw [this]
   have em : IntKind.u64.wrap (-1) = IntKind.u64.max := by decide
   rw [em, aeh]
   have hz := Lib.zigzag_neg h.1 hn
   rw [← hz]
   exact congrArg (fun x : BitVec 64 => IntKind.u64.wrap x.toNat) (BitVec.xor_comm _ _)
 · have : z.fdiv 9223372036854775808 = 0 := by rw [Int.fdiv_eq_ediv_of_nonneg _ (by decide)]; omega
   rw [this]
   have e0 : IntKind.u64.wrap 0 = ((0 : Nat) : Int) := by decide
   have ez : IntKind.u64.wrap (IntKind.u64.wrap z * 2) = ((zz z : Nat) : Int) := by
     rw [IntKind.wrap_u64, IntKind.wrap_u64]; unfold zz; rw [if_neg hn]; omega
   rw [e0, ez, bits_xor_u64_nat _ _ (by have := xR (z := z) (by unfold I64; omega); omega) (by decide), Nat.xor_zero]
theorem ad3 {m : Nat} (h : m < 18446744073709551616) : bits .xor .i64 (IntKind.i64.wrap ((m : Int).fdiv (2 ^ min (1 : Int).toNat IntKind.u64.bits))) (IntKind.i64.wrap (-(IntKind.i64.wrap (IntKind.u64.wrap (BitVec.ofInt IntKind.u64.bits (m : Int) &&& BitVec.ofInt IntKind.u64.bits 1).toNat)))) = s6 m := by
 have e1 : (2 : Int) ^ min (1 : Int).toNat IntKind.u64.bits = 2 := by decide
 rw [e1, Int.fdiv_eq_ediv_of_nonneg _ (by decide)]
 have hand : IntKind.u64.wrap (BitVec.ofInt IntKind.u64.bits (m : Int) &&& BitVec.ofInt IntKind.u64.bits 1).toNat = ((m % 2 : Nat) : Int) := by
   have := Lib.u64_and1 (m : Int) (by omega) (by omega)
   have h2 : bits .and .u64 (m : Int) 1 = IntKind.u64.wrap (BitVec.ofInt IntKind.u64.bits (m : Int) &&& BitVec.ofInt IntKind.u64.bits 1).toNat := rfl
   rw [← h2, this]; omega
 rw [hand]
 have ew : IntKind.i64.wrap ((m : Int) / 2) = ((m / 2 : Nat) : Int) := by rw [IntKind.wrap_i64]; omega
 rw [ew]
 unfold s6
 rcases Nat.mod_two_eq_zero_or_one m with h0 | h1
 · rw [h0, if_neg (by decide)]
   have : IntKind.i64.wrap (-(IntKind.i64.wrap ((0 : Nat) : Int))) = 0 := by decide
   rw [this]
   show IntKind.i64.wrap ((BitVec.ofInt 64 ((m / 2 : Nat) : Int) ^^^ BitVec.ofInt 64 0).toNat : Int) = _
   have hb : (BitVec.ofInt 64 ((m / 2 : Nat) : Int)).toNat = m / 2 := by
     rw [BitVec.ofInt_natCast, BitVec.toNat_ofNat]; exact Nat.mod_eq_of_lt (by omega)
   have h0b : BitVec.ofInt 64 0 = 0#64 := by decide
   rw [h0b, BitVec.xor_zero, hb, IntKind.wrap_i64]; omega
 · rw [h1, if_pos rfl]
   have : IntKind.i64.wrap (-(IntKind.i64.wrap ((1 : Nat) : Int))) = -1 := by decide
   rw [this]
   have h3 := Lib.i64_not (m / 2) (by omega)
   rw [← h3]
   exact congrArg (fun x : BitVec 64 => IntKind.i64.wrap x.toNat) (BitVec.xor_comm _ _)
theorem lg (k : Nat) (c : UInt8) (l : List UInt8) : fK (k + 1) (c :: l) = if k = 0 ∧ 1 < c.toNat then none else if c.toNat < 128 then (if c.toNat = 0 ∧ k < 9 then none else some (c.toNat, l)) else (fK k l).map fun p => (c.toNat % 128 + 128 * p.1, p.2) := rfl
def ju (r : List UInt8) (b : Bool) : Nat × List UInt8 × Bool := match fK 10 r with | some (m, t) => (m, t, b) | none => (0, [], true)
theorem mW {r : List UInt8} (h : fK 10 r = none) (b : Bool) : ju r b = (0, [], true) := by unfold ju; rw [h]
theorem zP {r t : List UInt8} {m : Nat} (h : fK 10 r = some (m, t)) (b : Bool) : ju r b = (m, t, b) := by unfold ju; rw [h]
theorem xp (r : List UInt8) (b : Bool) : (ju r b).1 < 18446744073709551616 := by
 unfold ju
 cases h : fK 10 r with
 | none => exact (show 0 < 18446744073709551616 by decide)
 | some p => exact (mB h).1
theorem abt (r : List UInt8) (b : Bool) : iK r b = if (ju r b).1 > 9223372036854775807 then (.R [] true, 0) else (.R (ju r b).2.1 (ju r b).2.2, (ju r b).1) := by
 unfold iK ju
 cases h : fK 10 r with
 | none => dsimp only; rw [if_neg (by decide)]
 | some p => rfl
theorem aap (r : List UInt8) (b : Bool) (z : Int) : l5 (.R r b) z = (.R (ju r b).2.1 (ju r b).2.2, s6 (ju r b).1) := by
 unfold l5 ju; dsimp only
 cases h : fK 10 r with
 | none => exact congrArg (Prod.mk (CS.R [] true)) (show (0 : Int) = s6 0 by decide)
 | some p => rfl
theorem zo {r t : List UInt8} {b b' : Bool} (h : (iK r b).1 = .R t b') : mf r b = if (iK r b).2 > t.length then (.R [] true, []) else (.R (t.drop (iK r b).2) b', t.take (iK r b).2) := by
 unfold mf
 generalize iK r b = p at h ⊢
 obtain ⟨s, n⟩ := p
 dsimp only at h ⊢
 subst h; rfl
theorem lI (r : List UInt8) : decide (bytesOf r = ⟨#[]⟩) = r.isEmpty := by
 cases r with
 | nil => exact decide_eq_true rfl
 | cons a l => exact decide_eq_false fun h => absurd (congrArg ByteArray.size h) (Nat.succ_ne_zero l.length)
structure RdI (r : List UInt8) (i acc : Nat) : Prop where
 le : i ≤ r.length
 i9 : i ≤ 10
 lt : acc < 128 ^ i
 eq : fK 10 r = (fK (10 - i) (r.drop i)).map fun p => (acc + 128 ^ i * p.1, p.2)
theorem RdI.start (r : List UInt8) : RdI r 0 0 := ⟨Nat.zero_le _, by decide, by decide, by simp⟩
section
variable {r : List UInt8} {i acc : Nat} {u : UInt8}
theorem RdI.cons (h : RdI r i acc) (hu : r[i]? = some u) (hi : i < 10) : fK 10 r = (fK (9 - i + 1) (u :: r.drop (i + 1))).map fun p => (acc + 128 ^ i * p.1, p.2) := by
 have := (List.getElem?_eq_some_iff.1 hu)
 obtain ⟨hl, he⟩ := this
 rw [h.eq, show 10 - i = 9 - i + 1 by omega, List.drop_eq_getElem_cons hl, he]
theorem RdI.big (h : RdI r i acc) (hu : r[i]? = some u) (hi : i = 9) (h1 : 1 < u.toNat) : fK 10 r = none := by
 rw [h.cons hu (by omega), lg, if_pos ⟨by omega, h1⟩]; rfl
theorem RdI.zero (h : RdI r i acc) (hu : r[i]? = some u) (hi : i < 10) (h1 : u.toNat = 0) (h0 : 0 < i) : fK 10 r = none := by
 rw [h.cons hu hi, lg, if_neg (by omega), if_pos (by omega), if_pos ⟨h1, by omega⟩]; rfl
theorem RdI.last (h : RdI r i acc) (hu : r[i]? = some u) (hi : i < 10) (h9 : ¬ (i = 9 ∧ 1 < u.toNat)) (h1 : u.toNat < 128) (h0 : ¬ (u.toNat = 0 ∧ 0 < i)) : fK 10 r = some (acc + 128 ^ i * (u.toNat % 128), r.drop (i + 1)) := by
 rw [h.cons hu hi, lg, if_neg (by omega), if_pos h1, if_neg (by omega), Option.map_some, Nat.mod_eq_of_lt h1]
theorem RdI.more (h : RdI r i acc) (hu : r[i]? = some u) (hi : i < 10) (h9 : ¬ (i = 9 ∧ 1 < u.toNat)) (h1 : 128 ≤ u.toNat) : RdI r (i + 1) (acc + 128 ^ i * (u.toNat % 128)) := by
 have hl := (List.getElem?_eq_some_iff.1 hu).1
 refine ⟨hl, hi, ?_, ?_⟩
 · have h2 : u.toNat % 128 ≤ 127 := by omega
   have h3 : 128 ^ i * (u.toNat % 128) ≤ 128 ^ i * 127 := Nat.mul_le_mul_left _ h2
   have := h.lt
   rw [Nat.pow_succ]; omega
 · rw [h.cons hu hi, lg, if_neg (by omega), if_neg (by omega), show 10 - (i + 1) = 9 - i by omega, Option.map_map]
   congr 1
   funext p
   simp only [Function.comp, Prod.mk.injEq, and_true]
   rw [Nat.pow_succ, Nat.mul_add, Nat.add_assoc, Nat.mul_assoc]
theorem RdI.stop (h : RdI r i acc) (hs : r.length ≤ i ∨ 10 ≤ i) : fK 10 r = none := by
 rw [h.eq]
 rcases hs with hs | hs
 · rw [List.drop_eq_nil_of_le hs]
   cases 10 - i <;> rfl
 · rw [show 10 - i = 0 by omega]; rfl
end
structure WrI (m0 : Nat) (l : List UInt8) (m : Nat) : Prop where
 le : l.length ≤ 9
 lt : m < 2 * 128 ^ (9 - l.length)
 eq : l ++ lF (10 - l.length) m = aO m0
theorem WrI.start {m : Nat} (h : m < 18446744073709551616) : WrI m [] m := ⟨Nat.zero_le _, Nat.lt_of_lt_of_le h (by decide), rfl⟩
theorem WrI.step {m0 m : Nat} {l : List UInt8} (h : WrI m0 l m) (hm : 128 ≤ m) : WrI m0 (l ++ [UInt8.ofNat (m % 128 + 128)]) (m / 128) := by
 have hlt := h.lt
 have hle := h.le
 obtain ⟨k, hk⟩ : ∃ k, 9 - l.length = k + 1 := by
   cases hh : 9 - l.length with
   | zero => rw [hh] at hlt; omega
   | succ k => exact ⟨k, rfl⟩
 have hk2 : 9 - (l ++ [UInt8.ofNat (m % 128 + 128)]).length = k := by simp; omega
 refine ⟨by simp; omega, ?_, ?_⟩
 · rw [hk2]
   rw [hk, Nat.pow_succ] at hlt
   exact Nat.div_lt_of_lt_mul (by omega)
 · rw [← h.eq]
   have e1 : 10 - l.length = (k + 1) + 1 := by omega
   have e2 : 10 - (l ++ [UInt8.ofNat (m % 128 + 128)]).length = k + 1 := by simp; omega
   rw [e1, e2, List.append_assoc]
   show _ = l ++ lF (k + 1 + 1) m
   rw [show lF (k + 1 + 1) m = UInt8.ofNat (m % 128 + 128) :: lF (k + 1) (m / 128) from by rw [lF, if_neg (by omega)]]
   rfl
theorem WrI.last {m0 m : Nat} {l : List UInt8} (h : WrI m0 l m) (hm : m < 128) : l ++ [UInt8.ofNat m] = aO m0 := by
 have hle := h.le
 rw [← h.eq, show 10 - l.length = 9 - l.length + 1 by omega, lF, if_pos hm]
end Go.Lv

